/- Texts of this proof, laid together. -/
import Derived.Test.YtkiankpmkglhcaaX2ROutboxStays
import Derived.Lib.AppendZerosOnto
import Derived.Laws.Externs
/- Regions that draw their order, with allocations that hang on nothing among their operations. -/
namespace Go.Proofs.Ytkiankpmkglhcaa.J
open Go Go.RowKit
set_option linter.unusedVariables false
set_option linter.unusedSimpArgs false
/-- Allocations: their places in the region, their slots, the cells of a new one. -/
abbrev Al := List (Nat × Nat × List AV)
def ExR (ex : List Own) (R : List Own → AV → List Own → Prop) (ow : List Own) : List Own → AV → List Own → Prop := fun _ x o' => ∃ o1, o'.Perm (o1 ++ ex) ∧ R ow x o1
/-- An allocation, unguarded. -/
def AllocOp (P : Program) (o : Oper) (d : Nat) (z : List AV) : Prop :=
  ∃ t ty pos af vs, o = ⟨some d, .alloc t, ty, pos, af, none⟩ ∧ zeroCells P t = some vs ∧ vs.all (·.oneCell') = true ∧ z = vs.map AV.c
theorem AllocOp.dst {P : Program} {o : Oper} {d : Nat} {z : List AV} (h : AllocOp P o d z) : o.dst = some d := by
  obtain ⟨t, ty, pos, af, vs, rfl, _⟩ := h; rfl
theorem AllocOp.guard {P : Program} {o : Oper} {d : Nat} {z : List AV} (h : AllocOp P o d z) : o.guard = none := by
  obtain ⟨t, ty, pos, af, vs, rfl, _⟩ := h; rfl
theorem AllocOp.mk {P : Program} {t : TypeId} {ty : TypeId} {pos : String} {af : Array Edge} {d : Nat} {vs : List Value} (hz : zeroCells P t = some vs) (h1 : vs.all (·.oneCell') = true) : AllocOp P ⟨some d, .alloc t, ty, pos, af, none⟩ d (vs.map AV.c) := ⟨t, ty, pos, af, vs, rfl, hz, h1, rfl⟩
theorem AllocOp.run {P : Program} {E : Ent} {o : Oper} {d : Nat} {z : List AV} (h : AllocOp P o d z) {n : Nat} {env : List (Nat × AV)} {own ex : List Own} {F : List (Value × AV)} {D : List Deferred} {A : Foot} {a : Act} {w : World} {Qx : Exit → Act → World → Prop}
    (hA : SatA E A ⟨n, env, own ++ ex, F, D⟩ a w) (K : Act → World → Prop)
    (hK : ∀ b w', Frm w A w' A → SatA E A ⟨n, env, .box b z :: (own ++ ex), F, D⟩ a w' → K (a.put o.dst (.pointer (some ⟨b, 0, none⟩))) w') : o.wpIn (fen E.rd) 0 P a w K Qx := by
  obtain ⟨t, ty, pos, af, vs, rfl, hz, h1, rfl⟩ := h
  refine wpR (by intro c h; cases h) ?_
  unfold Oper.wp
  obtain ⟨i, zv, h2, h3, h4⟩ : ∃ i zv, P.info? t = some i ∧ i.zero = some zv ∧ zv.cells.toList = vs := by
    unfold zeroCells at hz
    cases hi : P.info? t with
    | none => rw [hi] at hz; cases hz
    | some i =>
      rw [hi] at hz
      cases hzz : i.zero with
      | none => simp [hzz] at hz
      | some zv => exact ⟨i, zv, rfl, hzz, by simpa [hzz] using hz⟩
  have hr : (execOp a.eval ⟨some d, .alloc t, ty, pos, af, none⟩).run P w = .ok (.value (.pointer (some ⟨w.heap.size, 0, none⟩))) (World.pushed w (.cells vs.toArray t)) := by
    subst h4
    simp [execOp, Instr.alloc, zeroValue, run_typeInfo h2, h3, newVar, newRow, World.pushed]
  rw [hr, Oper.upon_value]
  have hs := hA.step (.push _ _ _) (fun _ _ h => h) (hA.hp.push_box (us := vs.toArray) (t := t) hA.keep.size (by simp) (.const h1))
  refine hK w.heap.size _ (fun v x hx => hx.move (fun _ _ h _ => h) (fun fr b hb _ => (Keep.push [] _ _).block b (hA.hp.lt fr b hb) (by simp))) hs
inductive AnyA (P : Program) (E : Ent) (Q : Exit → St → Prop) (ops : Array Oper) (n : Nat) (env : List (Nat × AV)) (own : List Own) (R : Outs → List Own → AV → List Own → Prop) (M : Nat) (F : List (Value × AV)) (D : List Deferred) : Nat → Nat → Nat → List Oper → List Slot → List Slot → List (Option Nat) → Al → Prop
  | nil (i p : Nat) (don : List Slot) : AnyA P E Q ops n env own R M F D i M p [] don don [] []
  | quiet {i j p : Nat} {o : Oper} {os : List Oper} {don all : List Slot} {lv : List (Option Nat)} {ds : Al} {d : Nat} {x : AV} {env' : List (Nat × AV)} (hd : o.dst = some d) (hn : Nat.blt d n = true) (he : EnvOkR o don env env')
      (hs : ∀ os' ex, vdO own R os' → os'.length ≤ M → Step P E ops ⟨n, env', curO own os' ++ ex, F, D⟩ o x) (h : AnyA P E Q ops n env own R M F D (i + 1) j p os (don ++ [(d, .inl x)]) all lv ds) : AnyA P E Q ops n env own R M F D i j p (o :: os) don all (none :: lv) ds
  | alloc {i j p : Nat} {o : Oper} {os : List Oper} {don all : List Slot} {lv : List (Option Nat)} {ds : Al} {d : Nat} {z : List AV} (ha : AllocOp P o d z) (hn : Nat.blt d n = true)
      (h : AnyA P E Q ops n env own R M F D (i + 1) j p os (don ++ [(n + i, .inl (.c undef))]) all lv ds) : AnyA P E Q ops n env own R M F D i j p (o :: os) don all (none :: lv) ((i, d, z) :: ds)
  | loud {i j p : Nat} {o : Oper} {os : List Oper} {don all : List Slot} {lv : List (Option Nat)} {ds : Al} {env' : Outs → List (Nat × AV)} {s : Nat} (hd : (o.dst = none ∧ s = n + i ∧ ∀ os ow x o', R os ow x o' → os.length = j → x = .c undef) ∨ (o.dst = some s ∧ s < n)) (hg : o.guard = none) (he : ∀ os', os'.length = j → EnvOkO o don env (env' os') os') (hp : (Nat.beq j 0 || depsOk o [p]) = true)
      (hs : ∀ os' ex, vdO own R os' → os'.length = j → LStepR P E Q ⟨n, env' os', curO own os' ++ ex, F, D⟩ (ExR ex (R os') (curO own os')) o) (h : AnyA P E Q ops n env own R M F D (i + 1) (j + 1) i os (don ++ [(s, .inr j)]) all lv ds) : AnyA P E Q ops n env own R M F D i j p (o :: os) don all (some j :: lv) ds
section
variable {P : Program} {E : Ent} {Q : Exit → St → Prop} {n : Nat} {env : List (Nat × AV)} {own : List Own} {R : Outs → List Own → AV → List Own → Prop} {M : Nat} {F : List (Value × AV)} {D : List Deferred} {ops : Array Oper}
theorem AnyA.get {i j p : Nat} {os : List Oper} {don all : List Slot} {lv : List (Option Nat)} {ds : Al} (h : AnyA P E Q ops n env own R M F D i j p os don all lv ds) (hi : don.length = i) :
    (∃ r, all = don ++ r) ∧ all.length = don.length + os.length ∧ lv.length = os.length ∧ j ≤ M ∧
    (∀ (k q : Nat), lv[k]? = some (some q) → j ≤ q ∧ q < M) ∧
    (∀ (k k' q : Nat), lv[k]? = some (some q) → lv[k']? = some (some q) → k = k') ∧
    (∀ q, j ≤ q → q < M → ∃ k : Nat, lv[k]? = some (some q)) ∧
    (∀ p ∈ ds, i ≤ p.1 ∧ p.1 < i + os.length) ∧ (ds.map (·.1)).Nodup ∧
    ∀ k o, os[k]? = some o →
      (lv[k]? = some none ∧ ∃ d x env', all[i + k]? = some (d, .inl x) ∧ o.dst = some d ∧ d < n ∧ EnvOkR o (all.take (i + k)) env env' ∧ (∀ p ∈ ds, p.1 ≠ i + k) ∧ ∀ os' ex, vdO own R os' → os'.length ≤ M → Step P E ops ⟨n, env', curO own os' ++ ex, F, D⟩ o x) ∨
      (lv[k]? = some none ∧ all[i + k]? = some (n + (i + k), .inl (.c undef)) ∧ ∃ d z, (i + k, d, z) ∈ ds ∧ d < n ∧ AllocOp P o d z) ∨
      (∃ (q : Nat) (env' : Outs → List (Nat × AV)) (s : Nat), lv[k]? = some (some q) ∧ all[i + k]? = some (s, .inr q) ∧ ((o.dst = none ∧ s = n + (i + k) ∧ ∀ os ow x o', R os ow x o' → os.length = q → x = .c undef) ∨ (o.dst = some s ∧ s < n)) ∧ o.guard = none ∧ (∀ os', os'.length = q → EnvOkO o (all.take (i + k)) env (env' os') os') ∧ (∀ p ∈ ds, p.1 ≠ i + k) ∧ (∀ os' ex, vdO own R os' → os'.length = q → LStepR P E Q ⟨n, env' os', curO own os' ++ ex, F, D⟩ (ExR ex (R os') (curO own os')) o) ∧
        (q = j → j = 0 ∨ depsOk o [p] = true) ∧ (j < q → ∃ k', lv[k']? = some (some (q - 1)) ∧ depsOk o [i + k'] = true)) := by
  induction h with
  | nil i p don => exact ⟨⟨[], by simp⟩, by simp, rfl, Nat.le_refl _, fun k q h => by simp at h, fun k k' q h => by simp at h, fun q h1 h2 => by omega, (fun p h => by cases h), List.nodup_nil, fun k o h => by simp at h⟩
  | quiet hd hn hds hs _ ih =>
    rename_i i j p o os don all lv ds d x env' _
    obtain ⟨⟨r, hr⟩, hl, hlv, hjM, hq, hinj, hsur, hdb, hdn', hk⟩ := ih (by simp [hi])
    refine ⟨⟨(d, .inl x) :: r, by rw [hr]; simp⟩, by simp at hl ⊢; omega, by simp [hlv], hjM, fun k q hkq => ?_, fun k k' q h1 h2 => ?_, fun q h1 h2 => (by obtain ⟨k, hk'⟩ := hsur q h1 h2; exact ⟨k + 1, by simpa using hk'⟩), (fun p hp => by have := hdb p hp; simp only [List.length_cons]; omega), hdn', fun k o' ho' => ?_⟩
    · cases k with
      | zero => simp at hkq
      | succ k => exact hq k q (by simpa using hkq)
    · cases k with
      | zero => simp at h1
      | succ k =>
        cases k' with
        | zero => simp at h2
        | succ k' => rw [hinj k k' q (by simpa using h1) (by simpa using h2)]
    · cases k with
      | zero =>
        simp at ho'; subst ho'
        have : all.take (i + 0) = don := by rw [hr, ← hi]; simp
        exact .inl ⟨by simp, d, x, env', by rw [hr, ← hi]; simp, hd, blt_lt hn, by rw [this]; exact hds, (fun p hp => by have := hdb p hp; omega), hs⟩
      | succ k =>
        have := hk k o' (by simpa using ho')
        rw [show i + (k + 1) = i + 1 + k by omega]
        rcases this with ⟨h1, h2⟩ | ⟨h1, h2⟩ | ⟨q, ds', s', h1, h2, h3, h4, h5, h6, h6', h7, h8⟩
        · exact .inl ⟨by simpa using h1, h2⟩
        · exact .inr (.inl ⟨by simpa using h1, h2⟩)
        · refine .inr (.inr ⟨q, ds', s', by simpa using h1, h2, h3, h4, h5, h6, h6', h7, fun hlt => ?_⟩)
          obtain ⟨k', hk', hd'⟩ := h8 hlt
          exact ⟨k' + 1, by simpa using hk', by rw [show i + (k' + 1) = i + 1 + k' by omega]; exact hd'⟩
  | alloc ha hn _ ih =>
    rename_i i j p o os don all lv ds d z _
    obtain ⟨⟨r, hr⟩, hl, hlv, hjM, hq, hinj, hsur, hdb, hdn', hk⟩ := ih (by simp [hi])
    refine ⟨⟨(n + i, .inl (.c undef)) :: r, by rw [hr]; simp⟩, by simp at hl ⊢; omega, by simp [hlv], hjM, fun k q hkq => ?_, fun k k' q h1 h2 => ?_, fun q h1 h2 => (by obtain ⟨k, hk'⟩ := hsur q h1 h2; exact ⟨k + 1, by simpa using hk'⟩), (fun p hp => by
      rcases List.mem_cons.1 hp with rfl | hp
      · simp
      · have := hdb p hp; simp only [List.length_cons]; omega), (by
      rw [List.map_cons, List.nodup_cons]
      refine ⟨fun hm => ?_, hdn'⟩
      obtain ⟨p, hp, he⟩ := List.mem_map.1 hm
      have := hdb p hp
      simp only at he; omega), fun k o' ho' => ?_⟩
    · cases k with
      | zero => simp at hkq
      | succ k => exact hq k q (by simpa using hkq)
    · cases k with
      | zero => simp at h1
      | succ k =>
        cases k' with
        | zero => simp at h2
        | succ k' => rw [hinj k k' q (by simpa using h1) (by simpa using h2)]
    · cases k with
      | zero =>
        simp at ho'; subst ho'
        exact .inr (.inl ⟨by simp, by rw [hr, ← hi]; simp, d, z, by simp, blt_lt hn, ha⟩)
      | succ k =>
        have := hk k o' (by simpa using ho')
        rw [show i + (k + 1) = i + 1 + k by omega]
        rcases this with ⟨h1, h2⟩ | ⟨h1, h2⟩ | ⟨q, ds', s', h1, h2, h3, h4, h5, h6, h6', h7, h8⟩
        · obtain ⟨d', x', env', g1, g2, g3, g4, g5, g6⟩ := h2
          refine .inl ⟨by simpa using h1, d', x', env', g1, g2, g3, g4, (fun p hp => ?_), g6⟩
          rcases List.mem_cons.1 hp with rfl | hp
          · simp only; omega
          · exact g5 p hp
        · obtain ⟨g1, d', z', g2, g3⟩ := h2
          exact .inr (.inl ⟨by simpa using h1, g1, d', z', List.mem_cons_of_mem _ g2, g3⟩)
        · refine .inr (.inr ⟨q, ds', s', by simpa using h1, h2, h3, h4, h5, (fun p hp => (by
            rcases List.mem_cons.1 hp with rfl | hp
            · simp only; omega
            · exact h6 p hp)), h6', h7, fun hlt => ?_⟩)
          obtain ⟨k', hk', hd'⟩ := h8 hlt
          exact ⟨k' + 1, by simpa using hk', by rw [show i + (k' + 1) = i + 1 + k' by omega]; exact hd'⟩
  | loud hd hg hds hp hs _ ih =>
    rename_i i j p o os don all lv ds env' s _
    obtain ⟨⟨r, hr⟩, hl, hlv, hjM, hq, hinj, hsur, hdb, hdn', hk⟩ := ih (by simp [hi])
    refine ⟨⟨(s, .inr j) :: r, by rw [hr]; simp⟩, by simp at hl ⊢; omega, by simp [hlv], by omega, fun k q hkq => ?_, fun k k' q h1 h2 => ?_, fun q h1 h2 => (by
      by_cases he : q = j
      · exact ⟨0, by simp [he]⟩
      · obtain ⟨k, hk'⟩ := hsur q (by omega) h2; exact ⟨k + 1, by simpa using hk'⟩), (fun p hp => by have := hdb p hp; simp only [List.length_cons]; omega), hdn', fun k o' ho' => ?_⟩
    · cases k with
      | zero => simp at hkq; omega
      | succ k => have := hq k q (by simpa using hkq); omega
    · cases k with
      | zero =>
        cases k' with
        | zero => rfl
        | succ k' => simp at h1 h2; have := hq k' q h2; omega
      | succ k =>
        cases k' with
        | zero => simp at h1 h2; have := hq k q h1; omega
        | succ k' => rw [hinj k k' q (by simpa using h1) (by simpa using h2)]
    · cases k with
      | zero =>
        simp at ho'; subst ho'
        have : all.take (i + 0) = don := by rw [hr, ← hi]; simp
        refine .inr (.inr ⟨j, env', s, by simp, by rw [hr, ← hi]; simp, by simpa using hd, hg, by rw [this]; exact hds, (fun p hp => by have := hdb p hp; omega), hs, fun _ => ?_, fun h => by omega⟩)
        · simp only [Bool.or_eq_true] at hp
          exact hp.imp Nat.eq_of_beq_eq_true id
      | succ k =>
        have := hk k o' (by simpa using ho')
        rw [show i + (k + 1) = i + 1 + k by omega]
        rcases this with ⟨h1, h2⟩ | ⟨h1, h2⟩ | ⟨q, ds', s', h1, h2, h3, h4, h5, h6, h6', h7, h8⟩
        · exact .inl ⟨by simpa using h1, h2⟩
        · exact .inr (.inl ⟨by simpa using h1, h2⟩)
        · have hjq := (hq k q h1).1
          refine .inr (.inr ⟨q, ds', s', by simpa using h1, h2, h3, h4, h5, h6, h6', fun h => by omega, fun hlt => ?_⟩)
          by_cases he : q = j + 1
          · refine ⟨0, by simp [he], ?_⟩
            rcases h7 he with h7 | h7
            · omega
            · simpa using h7
          · obtain ⟨k', hk', hd'⟩ := h8 (by omega)
            exact ⟨k' + 1, by simpa using hk', by rw [show i + (k' + 1) = i + 1 + k' by omega]; exact hd'⟩
end
section
variable {P : Program} {E : Ent} {Q : Exit → St → Prop} {n : Nat} {env : List (Nat × AV)} {own : List Own} {R : Outs → List Own → AV → List Own → Prop} {M : Nat} {F : List (Value × AV)} {D : List Deferred} {ops : Array Oper}
def OutA (P : Program) (E : Ent) (Q : Exit → St → Prop) (ops : Array Oper) (n : Nat) (env : List (Nat × AV)) (own : List Own) (R : Outs → List Own → AV → List Own → Prop) (M : Nat) (F : List (Value × AV)) (D : List Deferred) (i j p : Nat) (os : List Oper) (don : List Slot) (da : Al) (K : List Slot → Al → Prop) : Prop :=
  i = don.length → ∃ all lv ds, AnyA P E Q ops n env own R M F D i j p os don.reverse all lv ds ∧ K all.reverse (da ++ ds)
variable {i j p : Nat} {da : Al} {K : List Slot → Al → Prop}
theorem OutA.nil {don : List Slot} (h : K don da) : OutA P E Q ops n env own R M F D i M p [] don da K := fun _ => ⟨don.reverse, _, _, .nil i p don.reverse, by rw [List.reverse_reverse, List.append_nil]; exact h⟩
theorem OutA.alloc {o : Oper} {os : List Oper} {don : List Slot} {d : Nat} {z : List AV} (ha : AllocOp P o d z) (hn : Nat.blt d n = true) (h : OutA P E Q ops n env own R M F D (i + 1) j p os ((n + i, .inl (.c undef)) :: don) (da ++ [(i, d, z)]) K) : OutA P E Q ops n env own R M F D i j p (o :: os) don da K := fun hi => by
  obtain ⟨all, lv, ds, h1, h2⟩ := h (by simp [hi])
  rw [List.reverse_cons] at h1
  exact ⟨all, _, _, .alloc ha hn h1, by simpa using h2⟩
theorem OutA.quiet {o : Oper} {os : List Oper} {don : List Slot} {d : Nat} {x : AV} (sl : List Nat) (hd : o.dst = some d) (hn : Nat.blt d n = true) (hc : chkR o sl don i = true)
    (hs : ∀ os' ex, vdO own R os' → os'.length ≤ M → Step P E ops ⟨n, selR sl don ++ env, curO own os' ++ ex, F, D⟩ o x) (h : OutA P E Q ops n env own R M F D (i + 1) j p os ((d, .inl x) :: don) da K) : OutA P E Q ops n env own R M F D i j p (o :: os) don da K := fun hi => by
  obtain ⟨all, lv, ds, h1, h2⟩ := h (by simp [hi])
  rw [List.reverse_cons] at h1
  exact ⟨all, _, _, .quiet hd hn (selR_get hi hc) hs h1, h2⟩
theorem OutA.loud {o : Oper} {os : List Oper} {don : List Slot} {d : Nat} (sl : List Nat) (hd : o.dst = some d) (hn : Nat.blt d n = true) (hg : o.guard = none) (hc : chkO o sl don i = true) (hp : (Nat.beq j 0 || depsOk o [p]) = true)
    (hs : ∀ os' ex, vdO own R os' → os'.length = j → LStepR P E Q ⟨n, selO sl os' don ++ env, curO own os' ++ ex, F, D⟩ (ExR ex (R os') (curO own os')) o) (h : OutA P E Q ops n env own R M F D (i + 1) (j + 1) i os ((d, .inr j) :: don) da K) : OutA P E Q ops n env own R M F D i j p (o :: os) don da K := fun hi => by
  obtain ⟨all, lv, ds, h1, h2⟩ := h (by simp [hi])
  rw [List.reverse_cons] at h1
  exact ⟨all, _, _, .loud (.inr ⟨hd, blt_lt hn⟩) hg (fun os' _ => selO_get (os := os') hi hc) hp hs h1, h2⟩
theorem OutA.store {o : Oper} {os : List Oper} {don : List Slot} (sl : List Nat) (hd : o.dst = none) (hu : ∀ os ow x o', R os ow x o' → os.length = j → x = .c undef) (hg : o.guard = none) (hc : chkO o sl don i = true) (hp : (Nat.beq j 0 || depsOk o [p]) = true)
    (hs : ∀ os' ex, vdO own R os' → os'.length = j → LStepR P E Q ⟨n, selO sl os' don ++ env, curO own os' ++ ex, F, D⟩ (ExR ex (R os') (curO own os')) o) (h : OutA P E Q ops n env own R M F D (i + 1) (j + 1) i os ((n + i, .inr j) :: don) da K) : OutA P E Q ops n env own R M F D i j p (o :: os) don da K := fun hi => by
  obtain ⟨all, lv, ds, h1, h2⟩ := h (by simp [hi])
  rw [List.reverse_cons] at h1
  exact ⟨all, _, _, .loud (.inl ⟨hd, rfl, hu⟩) hg (fun os' _ => selO_get (os := os') hi hc) hp hs h1, h2⟩
theorem LStepR.frame {st : St} {ex own1 : List Own} {R R' : List Own → AV → List Own → Prop} {o : Oper} (h : LStepR P E Q st R o) (hR : ∀ x o', R st.own x o' → ∃ o1, o'.Perm (o1 ++ ex) ∧ R' own1 x o1) : LStepR P E Q st (ExR ex R' own1) o := fun A a w hA K hK =>
  h A a w hA K fun v x own' w' A' hR1 hf hs hv => hK v x own' w' A' (hR x own' hR1) hf hs hv
/-- An allocation: the new box comes last. -/
theorem LStepR.alloc {t ty : TypeId} {pos : String} {af : Array Edge} {d : Nat} {vs : List Value} (hz : zeroCells P t = some vs) (h1 : vs.all (·.oneCell') = true) :
    LStepR P E Q ⟨n, env, own, F, D⟩ (fun ow x o' => ∃ b, x = .c (.pointer (some ⟨b, 0, none⟩)) ∧ o' = ow ++ [.box b (vs.map AV.c)]) ⟨some d, .alloc t, ty, pos, af, none⟩ := fun A a w hA K hK =>
  (AllocOp.mk (ty := ty) (pos := pos) (af := af) (d := d) hz h1).run (E := E) (own := own) (ex := []) (by rw [List.append_nil]; exact hA) K fun b w' hf hs =>
    hK _ _ _ w' A ⟨b, rfl, rfl⟩ hf (hs.perm (by rw [List.append_nil]; exact (List.perm_append_singleton _ _).symm)) (.c _)
end
end Go.Proofs.Ytkiankpmkglhcaa.J

/- Parts of own arrays: an own array laid open as a block; slices of it as constants; copies, appends in place, clearing, room that is made. -/
namespace Go.Proofs.Ytkiankpmkglhcaa.J
open Go Go.RowKit
set_option linter.unusedVariables false
set_option linter.unusedSimpArgs false
abbrev sv (b off l c : Nat) : Value := .slice (some ⟨b, off, none⟩) l c
section
variable {P : Program} {E : Ent} {st : St} {Q : Exit → St → Prop} {n B : Nat} {env : List (Nat × AV)} {own : List Own} {F : List (Value × AV)} {D : List Deferred} {ops : Array Oper} {rest : List Oper} {c : Code}
variable {A : Foot} {a : Act} {w w' : World} {t tx et ty : TypeId} {pos : String} {af : Array Edge} {d : Nat} {dd : Option Tmp} {gd : Option (Nat × Bool)} {x y s lo hi mx : Operand} {g : Bool} {m : Nat} {k k' k'' : IntKind} {i j j' : Int}
/-! ### open and shut -/
theorem SatA.swap {i : Nat} {o o' : Own} (h : SatA E A ⟨n, env, own, F, D⟩ a w) (hi : own[i]? = some o) (hf : o'.fp = o.fp) (ho : o'.ok w A) : SatA E A ⟨n, env, own.set i o', F, D⟩ a w :=
  ⟨h.size, h.defers, h.keep, h.hp.upd hi hf (.refl _ _) rfl ho, h.env, h.facts⟩
theorem SatA.lay {i : Nat} {v : Value} {e : ETy} {xs : List (List AV)} (h : SatA E A ⟨n, env, own, F, D⟩ a w) (hi : own[i]? = some (.arr v e xs)) :
    (∃ a0, v = .slice a0 0 0 ∧ xs = []) ∨ ∃ b cap sp, v = sv b 0 xs.length (cap + 1) ∧ xs.length ≤ cap + 1 ∧ (∀ x ∈ xs, x.length = e.sz) ∧ xs.flatten.length + List.length sp = (cap + 1) * e.sz ∧
      SatA E A ⟨n, env, own.set i (.box b (xs.flatten ++ sp.map AV.c)), F, D⟩ a w := by
  rcases h.arr i hi with h0 | ⟨b, cap, us, t, hv, h1, h2, h3, h4, h5⟩
  · exact .inl h0
  have hfl := flatten_length xs h4
  have hle : xs.flatten.length ≤ us.size := by rw [hfl, h3.size]; exact Nat.mul_le_mul_right _ h2
  have h3s := h3.size
  have hul : us.toList.length = us.size := by simp
  refine .inr ⟨b, cap, us.toList.drop xs.flatten.length, hv, h2, h4, by rw [List.length_drop]; omega, h.swap hi (by rw [hv]; rfl) ?_⟩
  refine ⟨us, t, h1, by rw [List.length_append, List.length_map, List.length_drop]; omega, fun k y hk => ?_⟩
  rw [Nat.zero_add]
  by_cases hlt : k < xs.flatten.length
  · rw [List.getElem?_append_left hlt] at hk
    have := h5 k y hk
    rwa [Nat.zero_add] at this
  · rw [List.getElem?_append_right (by omega), List.getElem?_map, List.getElem?_drop] at hk
    rw [show xs.flatten.length + (k - xs.flatten.length) = k by omega] at hk
    cases hu : us[k]? with
    | none => rw [Array.getElem?_toList, hu] at hk; cases hk
    | some u =>
      rw [Array.getElem?_toList, hu] at hk
      simp only [Option.map_some, Option.some.injEq] at hk
      subst hk
      exact ⟨u, rfl, h3.one k u hu, .c u⟩
theorem J.lay (i : Nat) {v : Value} {e : ETy} {xs : List (List AV)} (hi : own[i]? = some (.arr v e xs)) (h0 : ∀ a0, v = .slice a0 0 0 → xs = [] → J P E c ⟨n, env, own, F, D⟩ Q)
    (h1 : ∀ b cap sp, v = sv b 0 xs.length (cap + 1) → xs.length ≤ cap + 1 → (∀ x ∈ xs, x.length = e.sz) → xs.flatten.length + List.length sp = (cap + 1) * e.sz → J P E c ⟨n, env, own.set i (.box b (xs.flatten ++ sp.map AV.c)), F, D⟩ Q) : J P E c ⟨n, env, own, F, D⟩ Q := fun a w ⟨A, hA⟩ => by
  rcases hA.lay hi with ⟨a0, hv, hx⟩ | ⟨b, cap, sp, hv, g1, g2, g3, g4⟩
  · exact h0 a0 hv hx a w ⟨A, hA⟩
  · exact h1 b cap sp hv g1 g2 g3 a w ⟨A, g4⟩
theorem SatA.fold {i : Nat} {b cap : Nat} {ys : List AV} {v : Value} {e : ETy} {xs : List (List AV)} (h : SatA E A ⟨n, env, own, F, D⟩ a w) (hi : own[i]? = some (.box b ys)) (hv : v = sv b 0 xs.length (cap + 1)) (hle : xs.length ≤ cap + 1)
    (hs : ∀ x ∈ xs, x.length = e.sz) (hl : ys.length = (cap + 1) * e.sz) (hp : ys.take xs.flatten.length = xs.flatten) : SatA E A ⟨n, env, own.set i (.arr v e xs), F, D⟩ a w := by
  obtain ⟨us, t, h1, h2, h3⟩ := (h.hp.own _ (List.mem_of_getElem? hi) : (Own.box b ys).ok w A)
  refine h.swap hi (by rw [hv]; rfl) (.inr ⟨b, cap, us, t, hv, h1, hle, ⟨by rw [h2, hl], fun k u hu => ?_⟩, hs, fun k y hk => ?_⟩)
  · have hk : k < ys.length := by rw [← h2]; exact (Array.getElem?_eq_some_iff.1 hu).1
    obtain ⟨u', g1, g2, _⟩ := h3 k _ (List.getElem?_eq_getElem hk)
    rw [Nat.zero_add, hu] at g1
    cases g1; exact g2
  · refine h3 k y ?_
    have hk1 := (List.getElem?_eq_some_iff.1 hk).1
    rw [← hp] at hk
    rw [List.getElem?_take] at hk
    rwa [if_pos hk1] at hk
theorem J.fold (i : Nat) {b cap : Nat} {ys : List AV} {v : Value} {e : ETy} (xs : List (List AV)) (hi : own[i]? = some (.box b ys)) (hv : v = sv b 0 xs.length (cap + 1)) (hle : xs.length ≤ cap + 1)
    (hs : ∀ x ∈ xs, x.length = e.sz) (hl : ys.length = (cap + 1) * e.sz) (hp : ys.take xs.flatten.length = xs.flatten) {own' : List Own} (ho : own.set i (.arr v e xs) = own') (h : J P E c ⟨n, env, own', F, D⟩ Q) : J P E c ⟨n, env, own, F, D⟩ Q := fun a w ⟨A, hA⟩ => by
  subst ho
  exact h a w ⟨A, hA.fold hi hv hle hs hl hp⟩
/-! ### slices of a block, as constants -/
theorem cut_val {b off cap : Nat} {l : Nat} {off' : Nat} (ho : (if cap = l then off else off + l * m) = off') (l' c' : Nat) : (Value.slice (if cap = l then some ⟨b, off, none⟩ else (some ⟨b, off, none⟩ : Option Addr).map (·.add (l * m))) l' c') = sv b off' l' c' := by
  subst ho
  split
  · rfl
  · rw [Option.map_some, add_at]
theorem QW.cutL {b off len cap l off' : Nat} (hU : P.underlying t = some (.slice et)) (hT : tySz P et = some (g, m, B)) (hx : Ev E st x (.c (sv b off len cap))) (hlo : Ev E st lo (.c (.int k i))) (hi : i = (l : Int)) (hl : l ≤ len) (hc : len ≤ cap) (ho : (if cap = l then off else off + l * m) = off') :
    QW P E st ⟨dd, .slice t x (some lo) none none, ty, pos, af, gd⟩ (.c (sv b off' (len - l) (cap - l))) := .pure fun A a w hs => by
  refine ⟨sv b off' (len - l) (cap - l), ?_, .c _⟩
  have := run_slice (P := P) (w := w) (ad := some ⟨b, off, none⟩) (k := k) (k' := .i64) hU hT (some l) none (len := len) (cap := cap) (by simpa using hl) (by simpa using hc)
  simp only [bnd, Option.getD_some, Option.getD_none] at this
  rw [cut_val ho] at this
  simp only [execOp, hx.eq hs, Option.map_some, Option.map_none, EvBnd hlo hi hs, Sem.run_bind, this, Result.andThen_ok, Sem.run_pure]
theorem QW.cutH {b off len cap h : Nat} (hU : P.underlying t = some (.slice et)) (hT : tySz P et = some (g, m, B)) (hx : Ev E st x (.c (sv b off len cap))) (hhi : Ev E st hi (.c (.int k j))) (hj : j = (h : Int)) (hc : h ≤ cap) :
    QW P E st ⟨dd, .slice t x none (some hi) none, ty, pos, af, gd⟩ (.c (sv b off h cap)) := .pure fun A a w hs => by
  refine ⟨sv b off h cap, ?_, .c _⟩
  have := run_slice (P := P) (w := w) (ad := some ⟨b, off, none⟩) (k := .i64) (k' := k) hU hT none (some h) (len := len) (cap := cap) (by simp) (by simpa using hc)
  simp only [bnd, Option.getD_some, Option.getD_none, Nat.sub_zero] at this
  rw [cut_val (l := 0) (off' := off) (by split <;> simp)] at this
  simp only [execOp, hx.eq hs, Option.map_some, Option.map_none, EvBnd hhi hj hs, Sem.run_bind, this, Result.andThen_ok, Sem.run_pure]
theorem QW.cutLH {b off len cap l h off' : Nat} (hU : P.underlying t = some (.slice et)) (hT : tySz P et = some (g, m, B)) (hx : Ev E st x (.c (sv b off len cap))) (hlo : Ev E st lo (.c (.int k i))) (hhi : Ev E st hi (.c (.int k' j))) (hi0 : i = (l : Int)) (hj : j = (h : Int)) (hl : l ≤ h) (hc : h ≤ cap) (ho : (if cap = l then off else off + l * m) = off') :
    QW P E st ⟨dd, .slice t x (some lo) (some hi) none, ty, pos, af, gd⟩ (.c (sv b off' (h - l) (cap - l))) := .pure fun A a w hs => by
  refine ⟨sv b off' (h - l) (cap - l), ?_, .c _⟩
  have := run_slice (P := P) (w := w) (ad := some ⟨b, off, none⟩) (k := k) (k' := k') hU hT (some l) (some h) (len := len) (cap := cap) (by simpa using hl) (by simpa using hc)
  simp only [bnd, Option.getD_some, Option.getD_none] at this
  rw [cut_val ho] at this
  simp only [execOp, hx.eq hs, Option.map_some, Option.map_none, EvBnd hlo hi0 hs, EvBnd hhi hj hs, Sem.run_bind, this, Result.andThen_ok, Sem.run_pure]
theorem QW.len_c {ad : Option Addr} {l cap : Nat} (hU : P.underlying t = some (.slice et)) (h : Ev E st x (.c (.slice ad l cap))) : QW P E st ⟨dd, .call ⟨.builtin .len, #[x], #[t]⟩, ty, pos, af, gd⟩ (.c (.int .i64 (l : Int))) := .pure fun A a w hs =>
  ⟨_, by simp [execOp, resolve, invoke, builtin, Builtin.len_, run_underlying _ hU, h.eq hs, goInt], .c _⟩
/-! ### what is copied -/
/-- The first m of a slice of l elements: their cells. -/
def SrcN (P : Program) (w : World) (A : Foot) (sz m l : Nat) (v : Value) (zs : List AV) : Prop :=
  ∃ ad cp cs, v = .slice ad l cp ∧ (Builtin.firstCells sz m v).run P w = .ok (List.toArray cs) w ∧ Cells w A cs.toArray 0 zs ∧ cs.length = zs.length ∧ zs.length = m * sz
theorem cells_part {us : Array Value} {zs : List AV} {b off o2 mm : Nat} {tt : TypeId} {fz : Nat × Nat} (h : Cells w A us off zs) (hb : w.heap[b]? = some (.cells us tt fz)) (hle : o2 + mm ≤ zs.length) :
    ∃ cs : List Value, cs.length = mm ∧ (∀ j u, cs[j]? = some u → w.cell? ((⟨b, off + o2, none⟩ : Addr).add j) = some u) ∧ Cells w A cs.toArray 0 ((zs.drop o2).take mm) := by
  have hg : ∀ q, q < mm → ∃ u, us[off + (o2 + q)]? = some u ∧ u.oneCell' = true ∧ ∀ y, zs[o2 + q]? = some y → Rd w A u y := fun q hq => by
    obtain ⟨u, h1, h0, h2⟩ := h (o2 + q) _ (List.getElem?_eq_getElem (by omega))
    exact ⟨u, h1, h0, fun y hy => by rw [List.getElem?_eq_getElem (by omega)] at hy; cases hy; exact h2⟩
  have hu : ∀ q, q < mm → us[off + (o2 + q)]? = some (us.getD (off + (o2 + q)) undef) := fun q hq => by
    obtain ⟨u, h1, _⟩ := hg q hq
    simp [Array.getD_eq_getD_getElem?, h1]
  refine ⟨(List.range mm).map fun q => us.getD (off + (o2 + q)) undef, by simp, fun q u hq => ?_, fun q y hq => ?_⟩
  · rw [List.getElem?_map] at hq
    by_cases hlt : q < mm
    · rw [List.getElem?_range hlt] at hq; cases hq
      rw [add_at, cell_at hb, Nat.add_assoc]; exact hu q hlt
    · rw [List.getElem?_eq_none (by simpa using hlt)] at hq; cases hq
  · rw [List.getElem?_take] at hq
    split at hq
    · rename_i hlt
      rw [List.getElem?_drop] at hq
      obtain ⟨u, h1, h0, h2⟩ := hg q hlt
      have : us.getD (off + (o2 + q)) undef = u := by simp [Array.getD_eq_getD_getElem?, h1]
      exact ⟨u, by simp [hlt, h1], h0, h2 y hq⟩
    · cases hq
theorem SrcN.box {sz mm l cp b2 o2 i2 : Nat} {zs : List AV} {st : St} (h : Ev E st x (.c (sv b2 o2 l cp))) (ho : st.own[i2]? = some (.box b2 zs)) (hm : mm ≤ l) (hle : o2 + mm * sz ≤ zs.length) : ∀ A a w, SatA E A st a w → SrcN P w A sz mm l (a.eval x) ((zs.drop o2).take (mm * sz)) := fun A a w hs => by
  obtain ⟨us, tt, h1, h2, h3⟩ := (hs.hp.own _ (List.mem_of_getElem? ho) : (Own.box b2 zs).ok w A)
  obtain ⟨cs, g1, g2, g3⟩ := cells_part (off := 0) h3 h1 hle
  rw [Nat.zero_add] at g2
  refine ⟨_, _, cs, h.eq hs, ?_, g3, by rw [g1]; simp; omega, by simp; omega⟩
  rw [h.eq hs]
  exact run_firstCells_some w sz mm ⟨b2, o2, none⟩ l cp cs g1 g2
theorem SrcN.sl {sz mm : Nat} {fr clip : Bool} {e : ETy} {xs : List (List AV)} {st : St} (h : Ev E st x (.sl fr clip e xs)) (hsz : e.sz = sz) (hm : mm ≤ xs.length) : ∀ A a w, SatA E A st a w → SrcN P w A sz mm xs.length (a.eval x) (xs.flatten.take (mm * sz)) := fun A a w hs => by
  obtain ⟨ad, cap, hv, _, _, hc⟩ := (h A a w hs).of_sl
  rcases hc with rfl | ⟨b, off, cs, t', fz, rfl, hAb, hb, hxl, _, hc⟩
  · obtain rfl : mm = 0 := by simpa using hm
    refine ⟨_, _, [], hv, ?_, fun k y hk => by simp at hk, by simp, by simp⟩
    rw [hv]
    cases ad with
    | none => exact run_firstCells_none w sz 0 _ _
    | some a' => exact run_firstCells_some w sz 0 a' _ _ [] (by simp) (by intro _ _ h'; simp at h')
  · have hfl := flatten_length xs hxl
    subst hsz
    have hle : 0 + mm * e.sz ≤ xs.flatten.length := by rw [hfl, Nat.zero_add]; exact Nat.mul_le_mul_right _ hm
    obtain ⟨vs, g1, g2, g3⟩ := cells_part (o2 := 0) hc hb hle
    rw [List.drop_zero] at g3
    refine ⟨_, _, vs, hv, ?_, g3, by rw [g1, List.length_take]; omega, by rw [List.length_take]; omega⟩
    rw [hv]
    exact run_firstCells_some w e.sz mm ⟨b, off, none⟩ _ _ vs g1 (by simpa using g2)
theorem SrcN.one {sz : Nat} {fr clip : Bool} {e : ETy} {ys : List AV} {st : St} (h : Ev E st x (.sl fr clip e [ys])) (hsz : e.sz = sz) (hy : ys.length = sz) : ∀ A a w, SatA E A st a w → SrcN P w A sz 1 1 (a.eval x) ys := fun A a w hs => by
  have := SrcN.sl (P := P) (mm := 1) h hsz (Nat.le_refl 1) A a w hs
  have h2 : ([ys] : List (List AV)).flatten.take (1 * sz) = ys := by
    rw [Nat.one_mul, show ([ys] : List (List AV)).flatten = ys by simp]
    exact List.take_of_length_le (Nat.le_of_eq hy)
  rwa [h2] at this
theorem SrcN.boxE {sz mm l cp b2 o2 i2 q : Nat} {zs : List AV} {st : St} (h : Ev E st x (.c (sv b2 o2 l cp))) (ho : st.own[i2]? = some (.box b2 zs)) (hq : mm * sz = q) (hm : mm ≤ l) (hle : o2 + q ≤ zs.length) : ∀ A a w, SatA E A st a w → SrcN P w A sz mm l (a.eval x) ((zs.drop o2).take q) := by
  subst hq
  exact SrcN.box h ho hm hle
/-- Cells laid into an own block. -/
theorem SatA.lays {i b off : Nat} {ys zs : List AV} {cs : List Value} (hA : SatA E A ⟨n, env, own, F, D⟩ a w) (ho : own[i]? = some (.box b ys)) (hc : Cells w A cs.toArray 0 zs) (hl : cs.length = zs.length) (hle : off + zs.length ≤ ys.length) :
    ∃ w1, (storeCells ⟨b, off, none⟩ cs 0).run P w = .ok () w1 ∧ SatA E A ⟨n, env, own.set i (.box b (splice ys off zs)), F, D⟩ a w1 := by
  have hmem := List.mem_of_getElem? ho
  obtain ⟨us, tt, h1, h2, h3⟩ := (hA.hp.own _ hmem : (Own.box b ys).ok w A)
  obtain ⟨w1, us1, hr1, hk1, hz1, hb1, hs1, hu1⟩ := run_storeCells (P := P) (off := off) cs 0 us w h1 (by omega) (List.all_eq_true.2 (hc.ones hl))
  refine ⟨w1, hr1, ?_⟩
  have hfp : ∀ fr q, A fr q → q < w.heap.size → w1.heap[q]? = w.heap[q]? := fun fr q hq hlt => hk1.block q hlt fun hm' => by
    simp only [List.mem_singleton] at hm'
    subst hm'
    exact (hA.hp.fp q (fps_mem hmem (by simp [Own.fp]))).2.2 fr hq
  refine hA.step (hk1.mono fun q hq => fps_mem hmem (by simpa [Own.fp] using hq)) (fun _ _ h => h) (hA.hp.upd (o' := .box b (splice ys off zs)) ho (by simp [Own.fp]) (by simpa [Own.fp] using hk1) hz1 ⟨us1, tt, hb1, by rw [hs1, h2, splice_length hle], ?_⟩)
  exact (h3.spliced hc hl hle (by simpa using hu1)).keep hfp
/-- append, where there is room, in an own block. -/
theorem JL.appN (i : Nat) {b o1 l1 c1 mm sz : Nat} {ys zs : List AV} {e2 : TypeId} (hU : P.underlying t = some (.slice et)) (hV : P.underlying tx = some (.slice e2)) (hT : tySz P et = some (g, sz, B)) (hs : Ev E ⟨n, env, own, F, D⟩ s (.c (sv b o1 l1 c1))) (ho : own[i]? = some (.box b ys))
    (hx : ∀ A a w, SatA E A ⟨n, env, own, F, D⟩ a w → SrcN P w A sz mm mm (a.eval x) zs) (hroom : l1 + mm ≤ c1) (hle : o1 + l1 * sz + zs.length ≤ ys.length) (hd : Nat.blt d n = true)
    (h : JL P E ops rest ⟨n, (d, .c (sv b o1 (l1 + mm) c1)) :: env, own.set i (.box b (splice ys (o1 + l1 * sz) zs)), F, D⟩ Q) :
    JL P E ops (⟨some d, .call ⟨.builtin .append, #[s, x], #[t, tx]⟩, ty, pos, af, none⟩ :: rest) ⟨n, env, own, F, D⟩ Q := fun a w ⟨A, hA⟩ => by
  refine wpListIn_plain rfl fun K hK => ?_
  refine wpR (by intro c h; cases h) ?_
  unfold Oper.wp
  obtain ⟨ad, cp, cs, hv, hf, hc, hl, _⟩ := hx A a w hA
  obtain ⟨w1, hr1, hS⟩ := hA.lays (P := P) ho hc hl hle
  have hr : (Builtin.append_ #[t, tx] ty #[sv b o1 l1 c1, a.eval x]).run P w = .ok (sv b o1 (l1 + mm) c1) w1 := by
    rw [hv] at hf ⊢
    simp [Builtin.append_, run_underlying _ hU, run_underlying _ hV, run_sizeOf hT, Builtin.lenOf, hroom, hf, add_at, hr1]
  rw [run_builtin_append (hs.eq hA) rfl hr, Oper.upon_value]
  exact hK _ _ (h _ _ ⟨A, hS.put (blt_lt hd) (.c _)⟩)
/-- clear, of a part of an own block: what lies there then is not told. -/
theorem JL.clearN (i : Nat) {b o1 mm c1 : Nat} {e : ETy} {ys : List AV} (hU : P.underlying t = some (.slice et)) (hE : elemB P et e = true) (hx : Ev E ⟨n, env, own, F, D⟩ x (.c (sv b o1 mm c1))) (ho : own[i]? = some (.box b ys)) (hle : o1 + mm * e.sz ≤ ys.length)
    (h : ∀ zs : List AV, zs.length = mm * e.sz → JL P E ops rest ⟨n, env, own.set i (.box b (splice ys o1 zs)), F, D⟩ Q) :
    JL P E ops (⟨none, .call ⟨.builtin .clear, #[x], #[t]⟩, ty, pos, af, none⟩ :: rest) ⟨n, env, own, F, D⟩ Q := fun a w ⟨A, hA⟩ => by
  refine wpListIn_plain rfl fun K hK => ?_
  refine wpR (by intro c h; cases h) ?_
  unfold Oper.wp
  obtain ⟨ti, tz, hi, hsz, hby, hz, hzs, hz1⟩ := elemB_get hE
  have hset : own.set i (.box b ys) = own := by
    have hlt := List.getElem?_eq_some_iff.1 ho
    apply List.ext_getElem?
    intro q
    rw [List.getElem?_set]
    split
    · rename_i hq; subst hq; rw [if_pos hlt.1, ho]
    · rfl
  cases mm with
  | zero =>
    have he : (execOp a.eval ⟨none, .call ⟨.builtin .clear, #[x], #[t]⟩, ty, pos, af, none⟩).run P w = .ok (.value (.tuple #[])) w := by
      simp [execOp, resolve, invoke, builtin, hx.eq hA, Builtin.clear_, run_underlying _ hU, Result.andThen]
    rw [he, Oper.upon_value]
    have := h [] (by simp)
    rw [show splice ys o1 [] = ys by simp [splice], hset] at this
    exact hK _ _ (this _ _ ⟨A, hA⟩)
  | succ mm =>
    have hcs : ∀ u ∈ (Builtin.zeroCells tz.cells (mm + 1)).toList, u.oneCell' = true := fun u hu => zeroCells_one hz1 u (by simpa using hu)
    have hcl : (Builtin.zeroCells tz.cells (mm + 1)).toList.length = (mm + 1) * e.sz := by simp [size_zeroCells, hzs]
    have hc : Cells w A (Builtin.zeroCells tz.cells (mm + 1)).toList.toArray 0 ((Builtin.zeroCells tz.cells (mm + 1)).toList.map AV.c) := Cells.const (List.all_eq_true.2 hcs)
    obtain ⟨w1, hr1, hS⟩ := hA.lays (P := P) (off := o1) ho hc (by simp) (by rw [List.length_map, hcl]; exact hle)
    have he : (execOp a.eval ⟨none, .call ⟨.builtin .clear, #[x], #[t]⟩, ty, pos, af, none⟩).run P w = .ok (.value (.tuple #[])) w1 := by
      simp [execOp, resolve, invoke, builtin, hx.eq hA, Builtin.clear_, run_underlying _ hU, zeroValue, typeInfo, hi, hz, hr1, Result.andThen]
    rw [he, Oper.upon_value]
    exact hK _ _ (h _ (by rw [List.length_map, hcl]) _ _ ⟨A, hS⟩)
/-- slices.overlaps: a slice that is read, and a part of an own block. -/
theorem run_apart {tS tR : TypeId} {va b off l cb lA cA oA : Nat} {csA us : Array Value} {tA tB : TypeId} {fz : Nat × Nat} (hU : P.underlying tS = some (.slice et)) (hT : tySz P et = some (g, m, B)) (ha : w.heap[va]? = some (.cells csA tA fz)) (hb : w.heap[b]? = some (.cells us tB (0, 0))) (hne : va ≠ b) (hkA : csA.size ≠ 0) (hkB : us.size ≠ 0) :
    (Extern.SlicesOverlaps.overlaps #[tS, tS] #[tR] #[sv va oA lA cA, sv b off l cb]).run P w = .ok (.bool false) w := by
  have hsa : w.shape? va = some (tA, csA.size) := by simp [World.shape?, ha]
  have hsb : w.shape? b = some (tB, us.size) := by simp [World.shape?, hb]
  have hfb : ∀ q, w.frozen? ⟨b, q, none⟩ = false := fun q => by simp [World.frozen?, hb]
  have hnb : (va != b) = true := by simpa using hne
  have hnb' : (va == b) = false := by simpa using hne
  obtain ⟨nA, hnA⟩ : ∃ nA, csA.size = nA + 1 := ⟨csA.size - 1, by omega⟩
  rw [hnA] at hsa
  obtain ⟨nB, hnB⟩ : ∃ nB, us.size = nB + 1 := ⟨us.size - 1, by omega⟩
  rw [hnB] at hsb
  change Sem.run P (α := Value) (do
    let some t := (#[tS, tS] : Array TypeId)[0]? | stuck "slices.overlaps: no parameter types"
    let .slice elem ← underlying t | stuck "slices.overlaps: slice type expected"
    let size ← sizeOf elem
    match (some ⟨va, oA, none⟩ : Option Addr), (some ⟨b, off, none⟩ : Option Addr) with
    | some a, some b =>
      if lA = 0 ∨ l = 0 ∨ size = 0 then pure (Value.bool false)
      else if a.block != b.block && (← frozen a) && (← frozen b) then unsupported .addressObserved
      else do
        if a.block != b.block then do
          noView a; noView b
          if ← mayBeOne a b then return Value.bool ((← choose (.extern "sameAddr.stringBytes" 2)) == 1)
        pure (Value.bool (a.block == b.block && a.off < b.off + l * size && b.off < a.off + lA * size))
    | _, _ => pure (Value.bool false)) w = _
  by_cases h0 : lA = 0 ∨ l = 0 ∨ m = 0
  · simp [run_underlying _ hU, run_sizeOf hT, h0]
  · cases hf1 : w.frozen? ⟨va, oA, none⟩ <;> cases hf2 : w.frozen? ⟨va, nA + 1, none⟩ <;>
      simp [run_underlying _ hU, run_sizeOf hT, h0, hnb, hnb', frozen, noView, viewAt, mayBeOne, stringish, shape, Sem.run, hsa, hsb, hf1, hf2, hfb]
theorem QW.apart (i : Nat) {f : FuncId} {tS tR : TypeId} {tys : Array TypeId} {b off l cb : Nat} {ys : List AV} {fr clip : Bool} {e : ETy} {xs : List (List AV)} (hU : P.underlying tS = some (.slice et)) (hT : tySz P et = some (g, m, B))
    (hf : ∀ u v w, (callFunc f #[u, v]).run P w = ((Extern.SlicesOverlaps.overlaps #[tS, tS] #[tR] #[u, v]).run P w).andThen fun v w' => .ok (.value v) w')
    (hx : Ev E ⟨n, env, own, F, D⟩ x (.sl fr clip e xs)) (hy : Ev E ⟨n, env, own, F, D⟩ y (.c (sv b off l cb))) (ho : own[i]? = some (.box b ys)) (hn : xs.flatten ≠ []) (hn2 : ys ≠ []) :
    QW P E ⟨n, env, own, F, D⟩ ⟨dd, .call ⟨.value (.func f), #[x, y], tys⟩, ty, pos, af, gd⟩ (.c (.bool false)) := .pure fun A a w hs => by
  refine ⟨.bool false, ?_, .c _⟩
  obtain ⟨ad, cap, hv, _, _, hc⟩ := (hx A a w hs).of_sl
  obtain ⟨us, tt, h1, h2, h3⟩ := (hs.hp.own _ (List.mem_of_getElem? ho) : (Own.box b ys).ok w A)
  rcases hc with rfl | ⟨va, oA, csA, tA, fz, rfl, hAb, hb, hxl, _, hc⟩
  · exact absurd rfl hn
  have hne : va ≠ b := fun he => by
    subst he
    exact (hs.hp.fp va (fps_mem (List.mem_of_getElem? ho) (by simp [Own.fp]))).2.2 fr hAb
  have hkA : csA.size ≠ 0 := fun h0 => by
    obtain ⟨y0, hy0⟩ : ∃ y0, xs.flatten[0]? = some y0 := by
      cases hxf : xs.flatten with
      | nil => exact absurd hxf hn
      | cons a0 r => exact ⟨a0, rfl⟩
    obtain ⟨u, m1, _⟩ := hc 0 y0 hy0
    have := (Array.getElem?_eq_some_iff.1 m1).1
    omega
  have hkB : us.size ≠ 0 := by rw [h2]; exact fun h0 => hn2 (List.length_eq_zero_iff.1 h0)
  have hr := run_apart (P := P) (tR := tR) (oA := oA) (lA := xs.length) (cA := cap) (off := off) (l := l) (cb := cb) hU hT hb h1 hne hkA hkB
  have := hf (sv va oA xs.length cap) (sv b off l cb) w
  rw [hr] at this
  simp only [execOp, resolve, Act.eval, Deferred.ofValue, Sem.run_bind, Sem.run_pure, Result.andThen_ok, invoke]
  simpa [hv, hy.eq hs, Result.andThen] using this
theorem JL.cutAny3 (i : Nat) {v : Value} {e : ETy} {xs : List (List AV)} {l q mm : Nat} {j j' j'' : Int} (hU : P.underlying t = some (.slice et)) (hT : tySz P et = some (g, m, B)) (hx : Ev E ⟨n, env, own, F, D⟩ x (.c v)) (ho : own[i]? = some (.arr v e xs)) (hlo : Ev E ⟨n, env, own, F, D⟩ lo (.c (.int k j))) (hhi : Ev E ⟨n, env, own, F, D⟩ hi (.c (.int k' j'))) (hmx : Ev E ⟨n, env, own, F, D⟩ mx (.c (.int k'' j''))) (hj : j = (l : Int)) (hj' : j' = (q : Int)) (hj'' : j'' = (mm : Int)) (hl : l ≤ q) (hq : q ≤ mm) (hm : mm ≤ xs.length) (hd : Nat.blt d n = true)
    (h : ∀ u, JL P E ops rest ⟨n, (d, .c u) :: env, own, F, D⟩ Q) : JL P E ops (⟨some d, .slice t x (some lo) (some hi) (some mx), ty, pos, af, none⟩ :: rest) ⟨n, env, own, F, D⟩ Q := fun a w ⟨A, hA⟩ => by
  refine wpListIn_plain rfl fun K hK => ?_
  refine wpR (by intro c h; cases h) ?_
  unfold Oper.wp
  have hv : ∃ ad cap, v = .slice ad xs.length cap ∧ xs.length ≤ cap := by
    rcases hA.arr i ho with ⟨a0, hv, hx0⟩ | ⟨b, cap, us, t', hv, _, hle, _⟩
    · subst hx0; exact ⟨a0, 0, hv, Nat.le_refl _⟩
    · exact ⟨_, _, hv, hle⟩
  obtain ⟨ad, cap, rfl, hle⟩ := hv
  have := run_slice3 (P := P) (w := w) (ad := ad) (k := k) (k' := k') (k'' := k'') hU hT (some l) q mm (len := xs.length) (cap := cap) (by simpa using hl) hq (by omega)
  simp only [bnd, Option.getD_some, Option.getD_none] at this
  have he : (execOp a.eval ⟨some d, .slice t x (some lo) (some hi) (some mx), ty, pos, af, none⟩).run P w = .ok (.value (.slice (if mm = l then ad else ad.map (·.add (l * m))) (q - l) (mm - l))) w := by
    simp only [execOp, hx.eq hA, Option.map_some, Option.map_none, EvBnd hlo hj hA, EvBnd hhi hj' hA, EvBnd hmx hj'' hA, Sem.run_bind, this, Result.andThen_ok, Sem.run_pure]
  rw [he, Oper.upon_value]
  exact hK _ _ (h _ _ _ ⟨A, hA.put (blt_lt hd) (.c _)⟩)
end
/-! ### plain: an element laid in, or taken out -/
/-- Those from a + m on are moved down to a. -/
theorem del_shift {α : Type} {X sp zs : List α} {a m : Nat} (h : a + m ≤ X.length) (hz : zs.length = m) :
    (splice (splice (X ++ sp) a (((X ++ sp).drop (a + m)).take (X.length - (a + m)))) (X.length - m) zs).take (X.length - m) = X.take a ++ X.drop (a + m) := by
  have hl1 : (((X ++ sp).drop (a + m)).take (X.length - (a + m))).length = X.length - (a + m) := by simp; omega
  have hf1 : a + (((X ++ sp).drop (a + m)).take (X.length - (a + m))).length ≤ (X ++ sp).length := by rw [hl1]; simp; omega
  have hf2 : X.length - m + zs.length ≤ (splice (X ++ sp) a (((X ++ sp).drop (a + m)).take (X.length - (a + m)))).length := by rw [splice_length hf1, hz]; simp; omega
  apply List.ext_getElem?
  intro k
  rw [List.getElem?_take]
  by_cases hk : k < X.length - m
  · rw [if_pos hk, splice_get hf2, if_neg (by omega), splice_get hf1, hl1]
    by_cases h1 : k < a
    · rw [if_neg (by omega), List.getElem?_append_left (by omega), List.getElem?_append_left (by simp; omega), List.getElem?_take, if_pos h1]
    · rw [if_pos ⟨by omega, by omega⟩, List.getElem?_take, if_pos (by omega), List.getElem?_drop, List.getElem?_append_left (by omega), List.getElem?_append_right (by simp; omega), List.getElem?_drop]
      congr 1
      simp
      omega
  · rw [if_neg hk, List.getElem?_eq_none]
    simp; omega
theorem del_flat {α : Type} {sz : Nat} {xs : List (List α)} {i : Nat} (hs : ∀ x ∈ xs, x.length = sz) : (xs.take i ++ xs.drop (i + 1)).flatten = xs.flatten.take (i * sz) ++ xs.flatten.drop (i * sz + sz) := by
  rw [List.flatten_append, flatten_take xs hs, flatten_drop xs hs, Nat.succ_mul]
end Go.Proofs.Ytkiankpmkglhcaa.J

/- Walks: effects and items: may one be, lists of them, copies; the box in memory of its own. -/
namespace Go.Proofs.Ytkiankpmkglhcaa.J
open Go Go.RowKit
set_option linter.unusedVariables false
set_option linter.unusedSimpArgs false
set_option maxRecDepth 10000
set_option maxHeartbeats 4000000
theorem effect_ok {fr : Bool} {e : EvT} {ys : List AV} (he : Ec fr e ys) (hw : e.wf) : Fn Try.prog 96 [.agg ys] (.c (.int .i64 (evErr e))) := by
  obtain ⟨nm, v⟩ := e
  obtain ⟨-, hv⟩ := hw
  subst he
  refine AC.of_J Try.func96 rfl Try.ntmps96 rfl fun w0 A0 => ?_
  refine J.seq ?_
  refine J.region_lit ?_
  refine JL.box_agg (.tmp rfl) rfl fun b1 => ?_
  refine JL.q rfl rfl rfl (QW.assign .const) ?_
  refine JL.nil ?_
  refine thenQ.n ?_
  refine J.seq ?_
  refine J.seq ?_
  refine J.region_lit ?_
  refine JL.q rfl rfl rfl (QW.field_ptr fo114_0 (.tmp rfl) rfl) ?_
  refine JL.q rfl rfl rfl (QW.load_box1 0 ty9 (.tmp rfl) rfl rfl) ?_
  refine JL.q rfl rfl rfl (QW.call gofn122 (.cons (.tmp rfl) .nil) (name_ok _)) ?_
  refine JL.q rfl rfl rfl (QW.not (.tmp rfl)) ?_
  refine JL.nil ?_
  refine thenQ.n ?_
  refine J.cond (.tmp rfl) (fun c1 => ?_) (fun c1 => ?_)
  · skip
    simp at c1
    refine J.seq ?_
    refine J.region_lit ?_
    refine JL.q rfl rfl rfl (QW.assign .const) ?_
    refine JL.nil ?_
    refine thenQ.n ?_
    refine J.ret ?_
    refine thenQ.r ?_
    exact ⟨_, selP [.k] _, _, RetEv.one rfl (REv.tmp rfl (.refl _)), rfl, sel_perm [.k] _, ⟨by simp [evErr, c1], rfl⟩⟩
  · skip
    simp at c1
    refine J.skip ?_
    refine thenQ.n ?_
    refine J.seq ?_
    refine J.region_lit ?_
    refine JL.q rfl rfl rfl (QW.field_ptr fo114_1 (.tmp rfl) rfl) ?_
    refine JL.q rfl rfl rfl (by first | exact QW.load_box 0 ty26 (.tmp rfl) rfl rfl rfl | exact QW.load_box 0 ty26 (.tmp rfl) rfl (take_at (V.cs_length _ _) rfl) (V.cs_length _ _)) ?_
    refine JL.q rfl rfl rfl (QW.call gofn24 (.cons (.tmp rfl) .nil) (check_ok Vc.self hv)) ?_
    refine JL.q rfl rfl rfl (QW.assign (.tmp rfl)) ?_
    refine JL.nil ?_
    refine thenQ.n ?_
    refine J.ret ?_
    exact ⟨_, selP [.k] _, _, RetEv.one rfl (REv.tmp rfl (.refl _)), rfl, sel_perm [.k] _, ⟨by simp [evErr, c1], rfl⟩⟩
end Go.Proofs.Ytkiankpmkglhcaa.J

/- Owned trees taken apart. -/
namespace Go.Proofs.Ytkiankpmkglhcaa.J
open Go Go.RowKit
set_option linter.unusedVariables false
set_option linter.unusedSimpArgs false
theorem Reown.msk (ms : List Cd) (own : List Own) {own' : List Own} (h : selP ms own = own') : Reown own own' := by
  subst h
  exact (Reown.perm ((sel_perm ms own).trans List.perm_append_comm)).trans (Reown.drop _ _)
theorem Reown.pair {a b o : Own} {l : List Own} (h : OwnEq (.grp [a, b]) o) : Reown (o :: l) (a :: b :: l) := (Reown.eq h.symm).trans (Reown.open [a, b] l)
theorem Tr.inv {e : ETy} {xs : List (List AV)} {v : Value} {o : Own} (h : Tr (.sl true false e xs) v o) :
    ∃ cs us o1, cs.flatten = us.map AV.c ∧ cs.length = xs.length ∧ (∀ x ∈ cs, x.length = e.sz) ∧ us.all (·.oneCell') = true ∧ TrL xs.flatten us o1 ∧ OwnEq (.grp [.arr v e cs, o1]) o := by
  cases h with
  | sl h1 h2 h3 h4 h5 h6 h ho => exact ⟨_, _, _, h1, h2, h4, h5, h, ho⟩
theorem Tr.c_inv {u v : Value} {o : Own} (h : Tr (.c u) v o) : v = u := by cases h; rfl
theorem TrL.cons_inv {y : AV} {ys : List AV} {us : List Value} {o : Own} (h : TrL (y :: ys) us o) : ∃ u us' a b, us = u :: us' ∧ Tr y u a ∧ TrL ys us' b ∧ OwnEq (.grp [a, b]) o := by
  cases h with
  | cons h hs ho => exact ⟨_, _, _, _, rfl, h, hs, ho⟩
theorem TrL.nil_inv {us : List Value} {o : Own} (h : TrL [] us o) : us = [] := by cases h; rfl
theorem TrL.value {x : V} {us : List Value} {o : Own} (h : TrL (x.cs true) us o) (h1 : us.all (·.oneCell') = true) : ∃ kv iv ok oi, us = x.vals kv iv ∧ VTr x kv iv ok oi ∧ Reown [o] [ok, oi] := by
  obtain ⟨k, b, t, ks, is⟩ := x
  unfold V.cs at h
  obtain ⟨u0, us0, a0, b0, rfl, g0, h, e0⟩ := h.cons_inv
  obtain ⟨u1, us1, a1, b1, rfl, g1, h, e1⟩ := h.cons_inv
  obtain ⟨u2, us2, a2, b2, rfl, g2, h, e2⟩ := h.cons_inv
  obtain ⟨u3, us3, a3, b3, rfl, g3, h, e3⟩ := h.cons_inv
  obtain ⟨u4, us4, a4, b4, rfl, g4, h, e4⟩ := h.cons_inv
  obtain rfl := h.nil_inv
  obtain rfl := g0.c_inv
  obtain rfl := g1.c_inv
  obtain rfl := g2.c_inv
  simp only [List.all_cons, List.all_nil, Bool.and_eq_true, Bool.and_true] at h1
  refine ⟨u3, u4, a3, a4, rfl, ⟨h1.2.2.2.1, h1.2.2.2.2, g3, g4⟩, ?_⟩
  have s0 : Reown [o] [b0] := (Reown.pair e0).trans (Reown.dropN 1 _ rfl)
  have s1 : Reown [b0] [b1] := (Reown.pair e1).trans (Reown.dropN 1 _ rfl)
  have s2 : Reown [b1] [b2] := (Reown.pair e2).trans (Reown.dropN 1 _ rfl)
  have s3 : Reown [b2] [a3, a4] := (Reown.pair e3).trans ((Reown.cons (Reown.pair e4)).trans (Reown.msk [.p, .p] _ rfl))
  exact s0.trans (s1.trans (s2.trans s3))
end Go.Proofs.Ytkiankpmkglhcaa.J

/- Walks: a value that is spoilt. -/
namespace Go.Proofs.Ytkiankpmkglhcaa.J
open Go Go.RowKit
set_option linter.unusedVariables false
set_option linter.unusedSimpArgs false
set_option maxRecDepth 10000
set_option maxHeartbeats 4000000
end Go.Proofs.Ytkiankpmkglhcaa.J

/- Walks: slices.Insert of one element, slices.Delete of one. -/
namespace Go.Proofs.Ytkiankpmkglhcaa.J
open Go Go.RowKit
set_option linter.unusedVariables false
set_option linter.unusedSimpArgs false
set_option maxRecDepth 10000
set_option maxHeartbeats 4000000
theorem delIt_ok {v : Value} {xs : List (List AV)} {i : Nat} (hi : i < xs.length) (hr : xs.length * 104 ≤ reach) : AC Try.prog 103 [.arr v eIt xs] [.c v, .c (.int .i64 (i : Int)), .c (.int .i64 ((i : Int) + 1))] (RetR (CloneR eIt (xs.take i ++ xs.drop (i + 1)))) := by
  have hr2 := hr
  unfold reach at hr2
  refine AC.of_J Try.func103 rfl Try.ntmps103 rfl fun w0 A0 => ?_
  refine J.seq ?_
  refine J.region_lit ?_
  refine JL.q rfl rfl rfl (QW.assign .const) ?_
  refine JL.nil ?_
  refine thenQ.n ?_
  refine J.seq ?_
  refine J.region_lit ?_
  refine JL.q rfl rfl rfl (QW.move (.tmp rfl)) ?_
  refine JL.q rfl rfl rfl (QW.move (.tmp rfl)) ?_
  refine JL.q rfl rfl rfl (QW.move (.tmp rfl)) ?_
  refine JL.q rfl rfl rfl (QW.move (.tmp rfl)) ?_
  refine JL.q rfl rfl rfl (QW.len_arr 0 sl88 (.tmp rfl) rfl) ?_
  refine JL.cutAny3 (q := i + 1) (mm := xs.length) 0 sl88 ty116 (.tmp rfl) rfl (.tmp rfl) (.tmp rfl) (.tmp rfl) rfl (by omega) rfl (by omega) (by omega) (Nat.le_refl _) rfl fun u13 => ?_
  refine JL.nil ?_
  refine thenQ.n ?_
  refine J.seq ?_
  refine J.seq ?_
  refine J.region_lit ?_
  refine JL.q rfl rfl rfl (QW.move (.tmp rfl)) ?_
  refine JL.q rfl rfl rfl (QW.move (.tmp rfl)) ?_
  refine JL.q rfl rfl rfl (QW.eql (.tmp rfl) (.tmp rfl)) ?_
  refine JL.nil ?_
  refine thenQ.n ?_
  refine J.cond (.tmp rfl) (fun c1 => absurd c1 (by simp; omega)) (fun c1 => ?_)
  refine J.skip ?_
  refine thenQ.n ?_
  refine J.seq ?_
  refine J.region_lit ?_
  refine JL.q rfl rfl rfl (QW.move (.tmp rfl)) ?_
  refine JL.q rfl rfl rfl (QW.len_arr 0 sl88 (.tmp rfl) rfl) ?_
  refine JL.q rfl rfl rfl (QW.assign (.tmp rfl)) ?_
  refine JL.nil ?_
  refine thenQ.n ?_
  refine J.seq ?_
  refine J.lay 0 rfl (fun a0 hv hx => absurd hi (by rw [hx]; simp)) fun b cap sp hv hcap hsz hfl => ?_
  subst hv
  have hX : xs.flatten.length = xs.length * 7 := flatten_length xs hsz
  have hBl : (xs.flatten ++ sp.map AV.c).length = (cap + 1) * 7 := by rw [List.length_append, List.length_map]; exact hfl
  have hzl : (((xs.flatten ++ sp.map AV.c).drop (if cap + 1 = i + 1 then 0 else i * 7 + 7)).take (xs.flatten.length - (i * 7 + 7))).length = xs.flatten.length - (i * 7 + 7) := by rw [List.length_take, List.length_drop, hBl]; split <;> omega
  refine J.region_tailK 6 mixed (by kernel_rfl) (by kernel_rfl) (by kernel_rfl) rfl ?_
  refine .cons [] rfl rfl rfl (.q rfl (QW.move (.tmp rfl))) ?_
  refine .cons [] rfl rfl rfl (.q rfl (QW.move (.tmp rfl))) ?_
  refine .cons [20, 21] rfl rfl rfl (.q rfl (QW.cutH (h := i) sl88 ty116 (.tmp rfl) (.tmp rfl) rfl (by omega))) ?_
  refine .cons [] rfl rfl rfl (.q rfl (QW.move (.tmp rfl))) ?_
  refine .cons [] rfl rfl rfl (.q rfl (QW.move (.tmp rfl))) ?_
  refine .cons [23, 24] rfl rfl rfl (.q rfl (QW.cutL (l := i + 1) (off' := if cap + 1 = i + 1 then 0 else i * 7 + 7) sl88 ty116 (.tmp rfl) (.tmp rfl) (by omega) (by omega) (by omega) (by split <;> omega))) ?_
  refine .nil ?_
  refine JL.appN 0 sl88 sl88 ty116 (.tmp rfl) rfl (SrcN.boxE (i2 := 0) (mm := xs.length - (i + 1)) (q := xs.flatten.length - (i * 7 + 7)) (.tmp rfl) rfl (by omega) (Nat.le_refl _) (by rw [hBl]; split <;> omega)) (by omega) (by show 0 + i * 7 + _ ≤ _; rw [List.length_take, List.length_drop, hBl]; split <;> omega) rfl ?_
  refine JL.q rfl rfl rfl (QW.assign (.tmp rfl)) ?_
  refine JL.nil ?_
  refine thenQ.n ?_
  refine J.seq ?_
  refine J.region_lit ?_
  refine JL.q rfl rfl rfl (QW.move (.tmp rfl)) ?_
  refine JL.q rfl rfl rfl (QW.move (.tmp rfl)) ?_
  refine JL.q rfl rfl rfl (QW.len_c sl88 (.tmp rfl)) ?_
  refine JL.q rfl rfl rfl (QW.move (.tmp rfl)) ?_
  refine JL.q rfl rfl rfl (QW.cutLH (l := i + (xs.length - (i + 1))) (h := xs.length) (off' := (xs.length - 1) * 7) sl88 ty116 (.tmp rfl) (.tmp rfl) (.tmp rfl) rfl rfl (by omega) (by omega) (by rw [if_neg (by omega)]; show 0 + (i + (xs.length - (i + 1))) * 7 = _; omega)) ?_
  refine JL.clearN 0 sl88 el116 (.tmp rfl) rfl (by rw [splice_length (by rw [hBl, hzl]; omega), hBl]; show (xs.length - 1) * 7 + _ * 7 ≤ _; omega) fun zs hzs => ?_
  refine JL.nil ?_
  refine thenQ.n ?_
  refine J.seq ?_
  have hze : ((xs.flatten ++ sp.map AV.c).drop (if cap + 1 = i + 1 then 0 else i * 7 + 7)).take (xs.flatten.length - (i * 7 + 7)) = ((xs.flatten ++ sp.map AV.c).drop (i * 7 + 7)).take (xs.flatten.length - (i * 7 + 7)) := by
    split
    · rw [show xs.flatten.length - (i * 7 + 7) = 0 by omega, List.take_zero, List.take_zero]
    · rfl
  have hzs2 : zs.length = 7 := hzs.trans (by show (xs.length - (i + (xs.length - (i + 1)))) * 7 = 7; rw [show xs.length - (i + (xs.length - (i + 1))) = 1 by omega])
  have hxl : (xs.take i ++ xs.drop (i + 1)).length = xs.length - 1 := by simp; omega
  have hxf : (xs.take i ++ xs.drop (i + 1)).flatten.length = xs.flatten.length - 7 := by rw [del_flat (sz := 7) hsz, List.length_append, List.length_take, List.length_drop]; omega
  have hl1 : (splice (xs.flatten ++ sp.map AV.c) (i * 7) (((xs.flatten ++ sp.map AV.c).drop (i * 7 + 7)).take (xs.flatten.length - (i * 7 + 7)))).length = (cap + 1) * 7 := by rw [splice_length (by rw [← hze, hzl, hBl]; omega), hBl]
  refine J.reown (own' := [.box b (splice (splice (xs.flatten ++ sp.map AV.c) (i * 7) (((xs.flatten ++ sp.map AV.c).drop (i * 7 + 7)).take (xs.flatten.length - (i * 7 + 7)))) (xs.flatten.length - 7) zs)]) (Reown.ofEq (by rw [← hze, show xs.flatten.length - 7 = (xs.length - 1) * 7 by omega]; show [Own.box b (splice (splice _ (0 + i * 7) _) _ _)] = _; rw [Nat.zero_add])) ?_
  refine J.fold 0 (xs.take i ++ xs.drop (i + 1)) rfl (v := sv b 0 (i + (xs.length - (i + 1))) (cap + 1)) (by rw [hxl, show i + (xs.length - (i + 1)) = xs.length - 1 by omega]) (by omega) (fun x hx => (List.mem_append.1 hx).elim (fun h => hsz x (List.mem_of_mem_take h)) (fun h => hsz x (List.mem_of_mem_drop h))) (by rw [splice_length (by rw [hl1, hzs2]; omega), hl1]; rfl) (by rw [hxf, del_flat (sz := 7) hsz]; exact del_shift (X := xs.flatten) (sp := sp.map AV.c) (a := i * 7) (m := 7) (by omega) hzs2) rfl ?_
  refine J.region_lit ?_
  refine JL.q rfl rfl rfl (QW.move (.tmp rfl)) ?_
  refine JL.q rfl rfl rfl (QW.assign (.tmp rfl)) ?_
  refine JL.nil ?_
  refine thenQ.n ?_
  refine J.ret ?_
  exact ⟨_, selP [.p] _, _, RetEv.one rfl (REv.tmp rfl (.refl _)), rfl, sel_perm [.p] _, ⟨_, rfl, _, rfl, rfl, rfl⟩⟩
end Go.Proofs.Ytkiankpmkglhcaa.J

/- Walks: the queue and the page's queue. -/
namespace Go.Proofs.Ytkiankpmkglhcaa.J
open Go Go.RowKit
set_option linter.unusedVariables false
set_option linter.unusedSimpArgs false
set_option maxRecDepth 10000
set_option maxHeartbeats 4000000
theorem fill_one {e : ETy} {base z : List AV} (hz : z.length = e.sz) (hb : base.length = e.sz := by rfl) : fillA (fun i => some (i * e.sz, e.sz)) base [(0, z)] = some [z].flatten := by
  have h1 : splice base 0 z = z := splice_all (by rw [hz, hb])
  have h2 : Nat.ble e.sz e.sz = true := Nat.ble_eq_true_of_le (Nat.le_refl _)
  simp [fillA, hz, hb, h1, h2]
theorem all_one {e : ETy} {z : List AV} (hz : z.length = e.sz) : (([z] : List (List AV)).all fun x => Nat.beq x.length e.sz) = true := by simp [hz]
theorem QT.err_ok {q : QT} : q.err = 0 ↔ q.ok = true := by unfold QT.err; cases q.ok <;> simp
theorem QT.err_no {q : QT} (h : ¬ q.err = 0) : q.ok = false ∧ q.err = 9 := by unfold QT.err at *; cases hq : q.ok <;> simp_all
theorem QT.ok_inv {q : QT} (h : q.ok = true) : 1 ≤ q.limit ∧ q.limit ≤ 64 ∧ (q.events.length : Int) ≤ q.limit ∧ (q.events.length : Int) ≤ q.last ∧ q.last ≤ 1099511627776 ∧ q.events.all evOk = true := by
  unfold QT.ok at h; simp only [Bool.and_eq_true, decide_eq_true_eq] at h
  obtain ⟨⟨⟨⟨⟨h1, h2⟩, h3⟩, h4⟩, h5⟩, h6⟩ := h
  exact ⟨h1, h2, h3, h4, h5, h6⟩
theorem EvT.wfs.snoc {l : List EvT} {e : EvT} (h : EvT.wfs l) (he : e.wf) (hl : l.length ≤ 64) : EvT.wfs (l ++ [e]) := ⟨by simp; unfold reach; omega, fun x hx => by
  rcases List.mem_append.1 hx with hx | hx
  · exact h.2 x hx
  · simp only [List.mem_singleton] at hx; subst hx; exact he⟩
end Go.Proofs.Ytkiankpmkglhcaa.J

/- Walks: pushing and taking, by the program and by the page. -/
namespace Go.Proofs.Ytkiankpmkglhcaa.J
open Go Go.RowKit
set_option linter.unusedVariables false
set_option linter.unusedSimpArgs false
set_option maxRecDepth 10000
set_option maxHeartbeats 4000000
end Go.Proofs.Ytkiankpmkglhcaa.J

/- Walks: items: copies of their own; boxes: may one be, copies of their own, two alike. -/
namespace Go.Proofs.Ytkiankpmkglhcaa.J
open Go Go.RowKit
set_option linter.unusedVariables false
set_option linter.unusedSimpArgs false
set_option maxRecDepth 10000
set_option maxHeartbeats 4000000
theorem splice_it2 {fr : Bool} {e : ItT} : splice (e.cs fr) 2 (e.ev.arg.cs true) = e.cs true := by
  unfold ItT.cs EvT.cs
  rw [splice_succ, splice_succ, splice_all (by rw [V.cs_length, V.cs_length])]
def BownR : BT → AV → List Own → Prop
  | ⟨a, l⟩, x, o => ∃ v, x = .agg [.c (.int .i64 a), .c v] ∧ v.oneCell' = true ∧ o = [.arr v eIt (ItT.css true l)]
theorem Fn.ofBown {P : Program} {f : FuncId} {xs : List AV} {q : BT} (hw : ItT.wfs q.items) (h : AC P f [] xs (RetR (BownR q))) : Fn P f xs q.av :=
  Fn.close h fun x o h => by
    obtain ⟨la, l⟩ := q
    obtain ⟨v, rfl, _, rfl⟩ := h
    exact ⟨[(v, itsAV l)], fun w A hok hb p hp => Clos.arr (by rw [ItT.css_length]; exact hw.1) w A (hok _ (by simp)) (fun b hb' => hb b (by simpa [fps_cons, fps_nil] using hb')) p hp, .aggL (.cons (.refl _) (.cons (.fact (x := itsAV l) (by simp) (.refl _)) .nil))⟩
theorem num08_ok (e : Int) : Fn Try.prog 61 [.c (.int .i64 e)] (.c (.int .i64 e)) := by
  refine AC.of_J Try.func61 rfl Try.ntmps61 rfl fun w0 A0 => ?_
  refine J.seq ?_
  refine J.region_lit ?_
  refine JL.q rfl rfl rfl (QW.assign .const) ?_
  refine JL.nil ?_
  refine thenQ.n ?_
  refine J.seq ?_
  refine J.region_lit ?_
  refine JL.q rfl rfl rfl (QW.move (.tmp rfl)) ?_
  refine JL.q rfl rfl rfl (QW.assign (.tmp rfl)) ?_
  refine JL.nil ?_
  refine thenQ.n ?_
  refine J.ret ?_
  exact ⟨_, selP [] _, _, RetEv.one rfl (REv.tmp rfl (.refl _)), rfl, sel_perm [] _, ⟨rfl, rfl⟩⟩
end Go.Proofs.Ytkiankpmkglhcaa.J

/- Walks: may a box be, by the program and by the page; the program's copy. -/
namespace Go.Proofs.Ytkiankpmkglhcaa.J
open Go Go.RowKit
set_option linter.unusedVariables false
set_option linter.unusedSimpArgs false
set_option maxRecDepth 10000
set_option maxHeartbeats 4000000
theorem idsOk_step {la p : Int} {l : List ItT} {j : Nat} (h : j < l.length) : idsOk la p (l.drop j) = (decide (p < l[j].id) && decide (l[j].id < 32 * (la + 1)) && evOk l[j].ev && idsOk la l[j].id (l.drop (j + 1))) := by
  rw [List.drop_eq_getElem_cons h, idsOk]
theorem BT.err_of {la : Int} {l : List ItT} (h1 : 0 ≤ la ∧ la ≤ 1099511627776) (h2 : l.length ≤ 256) : (BT.mk la l).err = if idsOk la 31 l then 0 else 9 := by
  unfold BT.err BT.ok
  simp [h1, h2]
theorem BT.err_bad {la : Int} {l : List ItT} (h : ¬ (0 ≤ la ∧ la ≤ 1099511627776 ∧ l.length ≤ 256)) : (BT.mk la l).err = 9 := by
  unfold BT.err BT.ok
  rw [if_neg]
  simp only [Bool.and_eq_true, decide_eq_true_eq]
  intro hh
  exact h ⟨hh.1.1.1, hh.1.1.2, hh.1.2⟩
theorem ErrOk {e : EvT} : (evErr e = 0) ↔ evOk e = true := by rw [evOk_iff]; simp
theorem bcheck_ok {fr : Bool} {q : BT} {ys : List AV} (hq : Bc fr q ys) (hw : q.wf) : Fn Try.prog 63 [.agg ys] (.c (.int .i64 q.err)) := by
  obtain ⟨la, l⟩ := q
  subst hq
  obtain ⟨hl1, hit⟩ := hw
  have hw : (BT.mk la l).wf := ⟨hl1, hit⟩
  simp only at hl1 hit
  have hlen := hit.len
  refine AC.of_J Try.func63 rfl Try.ntmps63 rfl fun w0 A0 => ?_
  refine J.seq ?_
  refine J.region_lit ?_
  refine JL.box_agg (.tmp rfl) rfl fun b1 => ?_
  refine JL.q rfl rfl rfl (QW.assign .const) ?_
  refine JL.nil ?_
  refine thenQ.n ?_
  refine J.seq ?_
  refine J.seq ?_
  refine J.region_lit ?_
  refine JL.q rfl rfl rfl (QW.field_ptr fo92_0 (.tmp rfl) rfl) ?_
  refine JL.q rfl rfl rfl (QW.load_box1 0 ty3 (.tmp rfl) rfl rfl) ?_
  refine JL.q rfl rfl rfl (QW.lss (.tmp rfl) .const) ?_
  refine JL.q rfl rfl rfl (QW.move (.tmp rfl)) ?_
  refine JL.g rfl rfl rfl rfl rfl (fun hg => (QW.field_ptr fo92_0 (.tmp rfl) rfl)) ?_
  refine JL.g rfl rfl rfl rfl rfl (fun hg => (QW.load_box1 0 ty3 (.when rfl hg) rfl rfl)) ?_
  refine JL.g rfl rfl rfl rfl rfl (fun hg => (QW.gtr (.when rfl hg) .const)) ?_
  refine JL.q rfl rfl rfl (QW.pick_or (.tmp rfl) (.tmp rfl)) ?_
  refine JL.q rfl rfl rfl (QW.move (.tmp rfl)) ?_
  refine JL.g rfl rfl rfl rfl rfl (fun hg => (QW.field_ptr fo92_1 (.tmp rfl) rfl)) ?_
  refine JL.g rfl rfl rfl rfl rfl (fun hg => (QW.load_box1 0 ty88 (.when rfl hg) rfl rfl)) ?_
  refine JL.g rfl rfl rfl rfl rfl (fun hg => (by first | exact QW.len_slE sl88 (.when rfl hg) (ItT.css_length _ _) | exact QW.len_slE sl88 (.when rfl hg) (EvT.css_length _ _) | exact QW.len_sl sl88 (.when rfl hg) | exact QW.len_nil sl88 (.when rfl hg))) ?_
  refine JL.g rfl rfl rfl rfl rfl (fun hg => (QW.gtr (.when rfl hg) .const)) ?_
  refine JL.q rfl rfl rfl (QW.pick_or (.tmp rfl) (.tmp rfl)) ?_
  refine JL.nil ?_
  refine thenQ.n ?_
  refine J.cond (.tmp rfl) (fun c1 => ?_) (fun c1 => ?_)
  · skip
    skip
    refine J.seq ?_
    refine J.region_lit ?_
    refine JL.q rfl rfl rfl (QW.assign .const) ?_
    refine JL.nil ?_
    refine thenQ.n ?_
    refine J.ret ?_
    refine thenQ.r ?_
    exact ⟨_, selP [.k] _, _, RetEv.one rfl (REv.tmp rfl (.refl _)), rfl, sel_perm [.k] _, ⟨by rw [BT.err_bad]; simp [ItT.css_length] at c1; omega, rfl⟩⟩
  · skip
    simp [ItT.css_length] at c1
    have hb1 : 0 ≤ la ∧ la ≤ 1099511627776 := by omega
    have hb2 : l.length ≤ 256 := by omega
    refine J.skip ?_
    refine thenQ.n ?_
    refine J.seq ?_
    refine J.region_lit ?_
    refine JL.q rfl rfl rfl (QW.assign .const) ?_
    refine JL.nil ?_
    refine thenQ.n ?_
    refine J.seq ?_
    refine J.seq ?_
    refine J.region_lit ?_
    refine JL.q rfl rfl rfl (QW.field_ptr fo92_1 (.tmp rfl) rfl) ?_
    refine JL.q rfl rfl rfl (QW.load_box1 0 ty88 (.tmp rfl) rfl rfl) ?_
    refine JL.q rfl rfl rfl (by first | exact QW.len_slE sl88 (.tmp rfl) (ItT.css_length _ _) | exact QW.len_slE sl88 (.tmp rfl) (EvT.css_length _ _) | exact QW.len_sl sl88 (.tmp rfl) | exact QW.len_nil sl88 (.tmp rfl)) ?_
    refine JL.q rfl rfl rfl (QW.move .const) ?_
    refine JL.nil ?_
    refine thenQ.n ?_
    refine J.block ?_
    refine J.loopK (ι := Nat × Int) [1, 21, 22] (fun ⟨j, p⟩ => [(23, .c (.int .i64 (j : Int))), (3, .c (.int .i64 p))]) (fun _ oo => oo) (fun ⟨j, p⟩ => j ≤ l.length ∧ idsOk la 31 l = idsOk la p (l.drop j)) (fun ⟨j, p⟩ => l.length - j) ⟨0, 31⟩ (⟨Nat.zero_le _, rfl⟩) (Wk.re (.cons rfl (.refl _) (.cons rfl (.refl _) (.cons rfl (.refl _) (.cons rfl (.refl _) (.cons rfl (.refl _) .nil))))) (Reown.refl _) (fun _ h => by first | exact h | simp [h])) ?_
    intro ⟨j, p⟩ ⟨hj, ha⟩
    refine J.conv (by (try simp only [stepsO, List.map_cons, List.map_nil, valO, nthO, curO, mrg, List.reverse_cons, List.reverse_nil, List.nil_append, List.cons_append, List.append_nil, List.getElem?_cons_zero, List.getElem?_cons_succ, Option.map_some, Option.getD_some, List.set_cons_zero, List.set_cons_succ, AV.cellsOf, splice_zero, splice_succ, Nat.zero_add, Nat.reduceAdd]); rfl) ?_
    refine J.seq ?_
    refine J.region_lit ?_
    refine JL.q rfl rfl rfl (QW.lss (.tmp rfl) (.tmp rfl)) ?_
    refine JL.nil ?_
    refine thenQ.n ?_
    refine J.seq ?_
    refine J.cond (.tmp rfl) (fun c2 => ?_) (fun c2 => ?_)
    · skip
      have hlt : j < l.length := by simpa [ItT.css_length] using c2
      refine J.skip ?_
      refine thenQ.n ?_
      refine J.seq ?_
      refine J.block ?_
      refine J.seq ?_
      refine J.region_lit ?_
      refine JL.q rfl rfl rfl (QW.index_sl sl88 ty116 rfl (.tmp rfl) (.tmp rfl) (by first | rfl | omega | (simp; done)) (by exact ItT.css_getE _ hlt)) ?_
      refine JL.q rfl rfl rfl (by first | exact QW.load_ref ty116 (.tmp rfl) rfl rfl | exact QW.load_ref ty116 (.tmp rfl) (take_at0 (ItT.cs_length _ _) rfl) (ItT.cs_length _ _)) ?_
      refine JL.alloc z116 rfl rfl fun b5 => ?_
      first | refine JL.store_boxF 0 ty116 (.tmp rfl) rfl (.tmp rfl) (by first | rfl | assumption) (rfl) (rfl) rfl ?_ | refine JL.store_boxF 0 ty116 (.tmp rfl) rfl (.tmp rfl) (by first | rfl | assumption) (rfl) (ItT.cs_length _ _) rfl ?_ | refine JL.store_boxF 0 ty116 (.tmp rfl) rfl (.tmp rfl) (by first | rfl | assumption) (ItT.cs_length _ _) (rfl) rfl ?_ | refine JL.store_boxF 0 ty116 (.tmp rfl) rfl (.tmp rfl) (by first | rfl | assumption) (ItT.cs_length _ _) (ItT.cs_length _ _) rfl ?_ | refine JL.store_box 0 ty116 (.tmp rfl) rfl (.tmp rfl) (by first | rfl | assumption) rfl rfl rfl rfl ?_ | refine JL.store_box 0 ty116 (.tmp rfl) rfl (.tmp rfl) (by first | rfl | assumption) (ItT.cs_length _ _) rfl rfl rfl ?_
      refine JL.nil ?_
      refine thenQ.n ?_
      refine J.seq ?_
      refine J.seq ?_
      refine J.region_lit ?_
      refine JL.q rfl rfl rfl (QW.field_ptr fo116_0 (.tmp rfl) rfl) ?_
      refine JL.q rfl rfl rfl (QW.load_box1 0 ty3 (.tmp rfl) rfl rfl) ?_
      refine JL.q rfl rfl rfl (QW.move (.tmp rfl)) ?_
      refine JL.q rfl rfl rfl (QW.leq (.tmp rfl) (.tmp rfl)) ?_
      refine JL.q rfl rfl rfl (QW.move (.tmp rfl)) ?_
      refine JL.g rfl rfl rfl rfl rfl (fun hg => (QW.field_ptr fo116_0 (.tmp rfl) rfl)) ?_
      refine JL.g rfl rfl rfl rfl rfl (fun hg => (QW.load_box1 0 ty3 (.when rfl hg) rfl rfl)) ?_
      refine JL.g rfl rfl rfl rfl rfl (fun hg => (QW.field_ptr fo92_0 (.tmp rfl) rfl)) ?_
      refine JL.g rfl rfl rfl rfl rfl (fun hg => (QW.load_box1 1 ty3 (.when rfl hg) rfl rfl)) ?_
      refine JL.g rfl rfl rfl rfl rfl (fun hg => (QW.add (.when rfl hg) .const (by first | exact w64n (by first | rfl | omega | (simp; done)) (by omega) | exact w64 (by omega) | rfl))) ?_
      refine JL.g rfl rfl rfl rfl rfl (fun hg => (QW.mul .const (.when rfl hg) (by first | exact w64n (by first | rfl | omega | (simp; done)) (by omega) | exact w64 (by omega) | rfl))) ?_
      refine JL.g rfl rfl rfl rfl rfl (fun hg => (QW.geq (.when rfl hg) (.when rfl hg))) ?_
      refine JL.q rfl rfl rfl (QW.pick_or (.tmp rfl) (.tmp rfl)) ?_
      refine JL.q rfl rfl rfl (QW.move (.tmp rfl)) ?_
      refine JL.g rfl rfl rfl rfl rfl (fun hg => (QW.field_ptr fo116_1 (.tmp rfl) rfl)) ?_
      refine JL.g rfl rfl rfl rfl rfl (fun hg => (by first | exact QW.load_box 0 ty114 (.when rfl hg) rfl rfl rfl | exact QW.load_box 0 ty114 (.when rfl hg) rfl (take_at (EvT.cs_length _ _) rfl) (EvT.cs_length _ _))) ?_
      refine JL.g rfl rfl rfl rfl rfl (fun hg => (QW.call gofn96 (.cons (.when rfl hg) .nil) (effect_ok Ec.self (hit.2 _ (List.getElem_mem hlt)).ev))) ?_
      refine JL.g rfl rfl rfl rfl rfl (fun hg => (QW.neq (.when rfl hg) .const)) ?_
      refine JL.q rfl rfl rfl (QW.pick_or (.tmp rfl) (.tmp rfl)) ?_
      refine JL.nil ?_
      refine thenQ.n ?_
      refine J.cond (.tmp rfl) (fun c3 => ?_) (fun c3 => ?_)
      · skip
        skip
        refine J.seq ?_
        refine J.region_lit ?_
        refine JL.q rfl rfl rfl (QW.assign .const) ?_
        refine JL.nil ?_
        refine thenQ.n ?_
        refine J.ret ?_
        refine thenQ.r ?_
        refine blkQ.r ?_
        refine thenQ.r ?_
        refine thenQ.r ?_
        refine blkQ.r ?_
        refine thenQ.r ?_
        exact ⟨_, selP [.k, .k] _, _, RetEv.one rfl (REv.tmp rfl (.refl _)), rfl, sel_perm [.k, .k] _, ⟨by rw [BT.err_of hb1 hb2, ha, idsOk_step hlt, if_neg]; intro hh; simp only [Bool.and_eq_true, decide_eq_true_eq] at hh; simp only [Bool.or_eq_true, decide_eq_true_eq, bne_iff_ne] at c3; have := ErrOk.2 hh.1.2; omega, rfl⟩⟩
      · skip
        have hst : idsOk la p (l.drop j) = idsOk la l[j].id (l.drop (j + 1)) := by
          rw [idsOk_step hlt]
          simp only [Bool.or_eq_false_iff, decide_eq_false_iff_not, bne_eq_false_iff_eq] at c3
          obtain ⟨⟨g1, g2⟩, g3⟩ := c3
          simp [ErrOk.1 g3]
          omega
        refine J.skip ?_
        refine thenQ.n ?_
        refine J.region_lit ?_
        refine JL.q rfl rfl rfl (QW.field_ptr fo116_0 (.tmp rfl) rfl) ?_
        refine JL.q rfl rfl rfl (QW.load_box1 0 ty3 (.tmp rfl) rfl rfl) ?_
        refine JL.q rfl rfl rfl (QW.assign (.tmp rfl)) ?_
        refine JL.nil ?_
        refine blkQ.n ?_
        refine thenQ.n ?_
        refine J.region_lit ?_
        refine JL.q rfl rfl rfl (QW.add (.tmp rfl) .const (by first | exact w64n (by first | rfl | omega | (simp; done)) (by omega) | exact w64 (by omega) | rfl)) ?_
        refine JL.q rfl rfl rfl (QW.move (.tmp rfl)) ?_
        refine JL.nil ?_
        refine thenQ.n ?_
        exact ⟨⟨j + 1, l[j].id⟩, ⟨hlt, ha.trans hst⟩, by show l.length - (j + 1) < l.length - j; omega, Wk.re (.cons rfl (.refl _) (.cons rfl (.refl _) (.cons rfl (.refl _) (.cons rfl (.refl _) (.cons rfl (.refl _) .nil))))) (Reown.dropN 1 _ rfl) (fun _ h => by first | exact h | simp [h])⟩
    · skip
      have hge : l.length ≤ j := by simpa [ItT.css_length] using c2
      refine J.exit ?_
      refine thenQ.x ?_
      refine thenQ.x ?_
      refine blkQ.hit ?_
      refine thenQ.n ?_
      refine J.seq ?_
      refine J.region_lit ?_
      refine JL.q rfl rfl rfl (QW.assign .const) ?_
      refine JL.nil ?_
      refine thenQ.n ?_
      refine J.ret ?_
      exact ⟨_, selP [.k] _, _, RetEv.one rfl (REv.tmp rfl (.refl _)), rfl, sel_perm [.k] _, ⟨by rw [BT.err_of hb1 hb2, ha, List.drop_of_length_le hge]; rfl, rfl⟩⟩
end Go.Proofs.Ytkiankpmkglhcaa.J

/- Walks: the program's copy of a box. -/
namespace Go.Proofs.Ytkiankpmkglhcaa.J
open Go Go.RowKit
set_option linter.unusedVariables false
set_option linter.unusedSimpArgs false
set_option maxRecDepth 10000
set_option maxHeartbeats 4000000
theorem cloneIt_ok {fr c : Bool} (xs : List (List AV)) (hr : xs.length * 104 ≤ reach) : AC Try.prog 125 [] [.sl fr c eIt xs] (RetR (CloneR eIt xs)) := by
  refine AC.of_J Try.func125 rfl Try.ntmps125 rfl fun w0 A0 => ?_
  refine J.seq ?_
  refine J.region_lit ?_
  refine JL.q rfl rfl rfl (QW.assign .const) ?_
  refine JL.nil ?_
  refine thenQ.n ?_
  refine J.seq ?_
  refine J.seq ?_
  refine J.region_lit ?_
  refine JL.q rfl rfl rfl (QW.move (.tmp rfl)) ?_
  refine JL.eqnil sl88 (.tmp rfl) .const rfl fun n4 hn4 => ?_
  refine JL.nil ?_
  refine thenQ.n ?_
  refine J.cond (.tmp rfl) (fun c1 => ?_) (fun c1 => ?_)
  · skip
    refine J.seq ?_
    refine J.reown (Reown.nilArrE eIt _) ?_
    refine J.region_lit ?_
    refine JL.q rfl rfl rfl (QW.assign .const) ?_
    refine JL.nil ?_
    refine thenQ.n ?_
    refine J.ret ?_
    refine thenQ.r ?_
    obtain rfl : xs = [] := hn4 c1
    exact ⟨_, selP [.p] _, _, RetEv.one rfl (REv.tmp rfl (.refl _)), rfl, sel_perm [.p] _, ⟨_, rfl, _, rfl, rfl, rfl⟩⟩
  · skip
    refine J.skip ?_
    refine thenQ.n ?_
    refine J.seq ?_
    refine J.region_lit ?_
    refine JL.buildSlice0 sl88 el116 rfl rfl fun v5 => ?_
    refine JL.q rfl rfl rfl (QW.move (.tmp rfl)) ?_
    refine JL.append 0 sl88 el116 rfl (.tmp rfl) rfl (srcA_sl sl88 (.tmp rfl)) (by simpa using hr) rfl fun v7 => ?_
    refine JL.isSlice 0 rfl fun hs1 => ?_
    refine JL.q rfl rfl rfl (QW.assign (.tmp rfl)) ?_
    refine JL.nil ?_
    refine thenQ.n ?_
    refine J.ret ?_
    exact ⟨_, selP [.p] _, _, RetEv.one rfl (REv.tmp rfl (.refl _)), rfl, sel_perm [.p] _, ⟨_, rfl, _, rfl, hs1, rfl⟩⟩
theorem clipIt_ok {fr c : Bool} (xs : List (List AV)) : Fn Try.prog 95 [.sl fr c eIt xs] (.sl fr true eIt xs) := by
  refine AC.of_J Try.func95 rfl Try.ntmps95 rfl fun w0 A0 => ?_
  refine J.seq ?_
  refine J.region_lit ?_
  refine JL.q rfl rfl rfl (QW.assign .const) ?_
  refine JL.nil ?_
  refine thenQ.n ?_
  refine J.seq ?_
  refine J.region_lit ?_
  refine JL.q rfl rfl rfl (QW.move (.tmp rfl)) ?_
  refine JL.q rfl rfl rfl (QW.move (.tmp rfl)) ?_
  refine JL.q rfl rfl rfl (by first | exact QW.len_slE sl88 (.tmp rfl) (ItT.css_length _ _) | exact QW.len_slE sl88 (.tmp rfl) (EvT.css_length _ _) | exact QW.len_sl sl88 (.tmp rfl) | exact QW.len_nil sl88 (.tmp rfl)) ?_
  refine JL.q rfl rfl rfl (QW.move (.tmp rfl)) ?_
  refine JL.q rfl rfl rfl (by first | exact QW.len_slE sl88 (.tmp rfl) (ItT.css_length _ _) | exact QW.len_slE sl88 (.tmp rfl) (EvT.css_length _ _) | exact QW.len_sl sl88 (.tmp rfl) | exact QW.len_nil sl88 (.tmp rfl)) ?_
  refine JL.q rfl rfl rfl (QW.slice3_H sl88 ty116 rfl (.tmp rfl) (.tmp rfl) (.tmp rfl) (by first | rfl | omega | (simp; done)) (by first | rfl | omega | (simp; done)) (Nat.le_refl _)) ?_
  refine JL.q rfl rfl rfl (QW.assign (.tmp rfl)) ?_
  refine JL.nil ?_
  refine thenQ.n ?_
  refine J.ret ?_
  exact ⟨_, selP [] _, _, RetEv.one rfl (REv.tmp rfl (.refl _)), rfl, sel_perm [] _, ⟨by rw [List.take_length], rfl⟩⟩
theorem it_get {l : List ItT} {j : Nat} (fr : Bool) (h : j < l.length) : (ItT.css true (l.take j) ++ ItT.css fr (l.drop j))[j]? = some (ItT.cs fr l[j]) := by
  have hc : (ItT.css true (l.take j)).length = j := by rw [ItT.css_length, List.length_take]; omega
  rw [List.getElem?_append_right (by omega), hc, Nat.sub_self, List.drop_eq_getElem_cons h]; rfl
theorem it_set {l : List ItT} {j : Nat} {fr : Bool} (h : j < l.length) : (ItT.css true (l.take j) ++ ItT.css fr (l.drop j)).set j (ItT.cs true l[j]) = ItT.css true (l.take (j + 1)) ++ ItT.css fr (l.drop (j + 1)) := by
  have hc : (ItT.css true (l.take j)).length = j := by rw [ItT.css_length, List.length_take]; omega
  rw [List.set_append_right _ _ (by omega), hc, Nat.sub_self, List.drop_eq_getElem_cons h, List.take_succ_eq_append_getElem h, ItT.css_append]
  simp only [ItT.css, List.map_cons, List.map_nil, List.set_cons_zero, List.append_assoc, List.cons_append, List.nil_append]
theorem bclone_own {fr : Bool} {q : BT} {ys : List AV} (hq : Bc fr q ys) (hw : q.wf) : AC Try.prog 97 [] [.agg ys] (RetR (BownR q)) := by
  obtain ⟨la, l⟩ := q
  subst hq
  obtain ⟨hl1, hit⟩ := hw
  have hw : (BT.mk la l).wf := ⟨hl1, hit⟩
  simp only at hl1 hit
  have hlen := hit.len
  refine AC.of_J Try.func97 rfl Try.ntmps97 rfl fun w0 A0 => ?_
  refine J.seq ?_
  refine J.region_lit ?_
  refine JL.box_agg (.tmp rfl) rfl fun b1 => ?_
  refine JL.alloc z92 rfl rfl fun b2 => ?_
  refine JL.nil ?_
  refine thenQ.n ?_
  refine J.seq ?_
  refine J.region_lit ?_
  refine JL.q rfl rfl rfl (QW.field_ptr fo92_1 (.tmp rfl) rfl) ?_
  refine JL.q rfl rfl rfl (QW.load_box1 1 ty88 (.tmp rfl) rfl rfl) ?_
  refine JL.callRF [] gofn125 rfl Lent.nil (fun _ => (.cons (.tmp rfl) .nil)) (cloneIt_ok _ (by rw [ItT.css_length]; exact hit.1)) (.inl rfl) fun x7 o7 h7 => ?_
  obtain ⟨v7, rfl, hs1, rfl⟩ := h7
  refine JL.q rfl rfl rfl (QW.field_ptr fo92_1 (.tmp rfl) rfl) ?_
  refine JL.store_box 1 ty88 (.tmp rfl) rfl (.tmp rfl) (by first | rfl | assumption) rfl rfl rfl rfl ?_
  refine JL.nil ?_
  refine thenQ.n ?_
  refine J.seq ?_
  refine J.seq ?_
  refine J.region_lit ?_
  refine JL.q rfl rfl rfl (QW.field_ptr fo92_1 (.tmp rfl) rfl) ?_
  refine JL.q rfl rfl rfl (QW.load_box1 1 ty88 (.tmp rfl) rfl rfl) ?_
  refine JL.q rfl rfl rfl (QW.len_arr 2 sl88 (.tmp rfl) rfl) ?_
  refine JL.q rfl rfl rfl (QW.move .const) ?_
  refine JL.nil ?_
  refine thenQ.n ?_
  refine J.block ?_
  refine J.loopK (ι := Nat) [1, 2, 10, 11] (fun j => [(12, .c (.int .i64 (j : Int)))]) (fun j oo => List.set oo 2 (.arr v7 eIt (ItT.css true (l.take j) ++ ItT.css fr (l.drop j)))) (fun j => j ≤ l.length) (fun j => l.length - j) 0 (Nat.zero_le _) (Wk.re (.cons rfl (.refl _) (.cons rfl (.refl _) (.cons rfl (.refl _) (.cons rfl (.refl _) (.cons rfl (.refl _) .nil))))) (Reown.refl _) (fun _ h => by first | exact h | simp [h])) ?_
  intro j hj
  refine J.conv (by (try simp only [stepsO, List.map_cons, List.map_nil, valO, nthO, curO, mrg, List.reverse_cons, List.reverse_nil, List.nil_append, List.cons_append, List.append_nil, List.getElem?_cons_zero, List.getElem?_cons_succ, Option.map_some, Option.getD_some, List.set_cons_zero, List.set_cons_succ, AV.cellsOf, splice_zero, splice_succ, Nat.zero_add, Nat.reduceAdd]); rfl) ?_
  refine J.seq ?_
  refine J.region_lit ?_
  refine JL.q rfl rfl rfl (QW.lss (.tmp rfl) (.tmp rfl)) ?_
  refine JL.nil ?_
  refine thenQ.n ?_
  refine J.seq ?_
  refine J.cond (.tmp rfl) (fun c1 => ?_) (fun c1 => ?_)
  · skip
    have hlt : j < l.length := by (simp [ItT.css_length] at c1; omega)
    refine J.skip ?_
    refine thenQ.n ?_
    refine J.seq ?_
    refine J.block ?_
    refine J.seq ?_
    refine J.region_lit ?_
    refine JL.q rfl rfl rfl (QW.move (.tmp rfl)) ?_
    refine JL.q rfl rfl rfl (QW.index_arr 2 sl88 ty116 rfl (.tmp rfl) rfl (.tmp rfl) (by first | rfl | omega | (simp; done)) (by simp [ItT.css_length]; omega) rfl) ?_
    refine JL.q rfl rfl rfl (by first | exact QW.load_gp 2 ty116 (.tmp rfl) rfl (by exact it_get _ hlt) rfl rfl rfl | exact QW.load_gp (o := 0) 2 ty116 (.tmp rfl) rfl (by exact it_get _ hlt) rfl rfl rfl | exact QW.load_gp (o := 1) 2 ty116 (.tmp rfl) rfl (by exact it_get _ hlt) rfl rfl rfl | exact QW.load_gp (o := 2) 2 ty116 (.tmp rfl) rfl (by exact it_get _ hlt) rfl rfl rfl | exact QW.load_gp 2 ty116 (.tmp rfl) rfl (by exact it_get _ hlt) rfl (take_full (ItT.cs_length _ _)) (ItT.cs_length _ _)) ?_
    refine JL.alloc z116 rfl rfl fun b4 => ?_
    refine JL.q rfl rfl rfl (QW.assign (.tmp rfl)) ?_
    first | refine JL.store_boxF 0 ty116 (.tmp rfl) rfl (.tmp rfl) (by first | rfl | assumption) (rfl) (rfl) rfl ?_ | refine JL.store_boxF 0 ty116 (.tmp rfl) rfl (.tmp rfl) (by first | rfl | assumption) (rfl) (ItT.cs_length _ _) rfl ?_ | refine JL.store_boxF 0 ty116 (.tmp rfl) rfl (.tmp rfl) (by first | rfl | assumption) (ItT.cs_length _ _) (rfl) rfl ?_ | refine JL.store_boxF 0 ty116 (.tmp rfl) rfl (.tmp rfl) (by first | rfl | assumption) (ItT.cs_length _ _) (ItT.cs_length _ _) rfl ?_ | refine JL.store_box 0 ty116 (.tmp rfl) rfl (.tmp rfl) (by first | rfl | assumption) rfl rfl rfl rfl ?_ | refine JL.store_box 0 ty116 (.tmp rfl) rfl (.tmp rfl) (by first | rfl | assumption) (ItT.cs_length _ _) rfl rfl rfl ?_
    refine JL.nil ?_
    refine thenQ.n ?_
    refine J.region_tailK 7 mixed (by kernel_rfl) (by kernel_rfl) (by kernel_rfl) rfl ?_
    refine .cons [] rfl rfl rfl (.q rfl (QW.field_ptr fo92_1 (.tmp rfl) rfl)) ?_
    refine .cons [17] rfl rfl rfl (.q rfl (QW.load_box1 2 ty88 (.tmp rfl) rfl rfl)) ?_
    refine .cons [] rfl rfl rfl (.q rfl (QW.move (.tmp rfl))) ?_
    refine .cons [] rfl rfl rfl (.q rfl (QW.field_ptr fo116_1 (.tmp rfl) rfl)) ?_
    refine .cons [20] rfl rfl rfl (.q rfl (QW.field_ptr fo114_1 (.tmp rfl) rfl)) ?_
    refine .cons [21] rfl rfl rfl (.q rfl (by first | exact QW.load_box 0 ty26 (.tmp rfl) rfl rfl rfl | exact QW.load_box 0 ty26 (.tmp rfl) rfl (take_at (V.cs_length _ _) rfl) (V.cs_length _ _))) ?_
    refine .cons [22] rfl rfl rfl (.q rfl (QW.call gofn77 (.cons (.tmp rfl) .nil) (clone_rd Vc.self (hit.2 _ (List.getElem_mem hlt)).ev.arg))) ?_
    refine .nil ?_
    refine JL.q rfl rfl rfl (QW.index_arr 3 sl88 ty116 rfl (.tmp rfl) rfl (.tmp rfl) (by first | rfl | omega | (simp; done)) (by simp [ItT.css_length]; omega) rfl) ?_
    refine JL.q rfl rfl rfl (QW.field_gp fo116_1 (.tmp rfl) rfl) ?_
    refine JL.q rfl rfl rfl (QW.field_gp fo114_1 (.tmp rfl) rfl) ?_
    refine JL.store_gp (o := 2) 3 ty26 (.tmp rfl) rfl (it_get fr hlt) rfl (.tmp rfl) rfl (V.cs_length _ _) rfl ((congrArg (List.set _ _) splice_it2).trans (it_set hlt)) rfl ?_
    refine JL.nil ?_
    refine blkQ.n ?_
    refine thenQ.n ?_
    refine J.region_lit ?_
    refine JL.q rfl rfl rfl (QW.add (.tmp rfl) .const (by first | exact w64n (by first | rfl | omega | (simp; done)) (by omega) | exact w64 (by omega) | rfl)) ?_
    refine JL.q rfl rfl rfl (QW.move (.tmp rfl)) ?_
    refine JL.nil ?_
    refine thenQ.n ?_
    exact ⟨j + 1, hlt, by omega, Wk.re (.cons rfl (.refl _) (.cons rfl (.refl _) (.cons rfl (.refl _) (.cons rfl (.refl _) (.cons rfl (.refl _) .nil))))) (Reown.dropN 1 _ rfl) (fun _ h => by first | exact h | simp [h])⟩
  · skip
    have hge : l.length ≤ j := by (simp [ItT.css_length] at c1; omega)
    refine J.exit ?_
    refine thenQ.x ?_
    refine thenQ.x ?_
    refine blkQ.hit ?_
    refine thenQ.n ?_
    refine J.seq ?_
    refine J.region_lit ?_
    refine JL.q rfl rfl rfl (by first | exact QW.load_box 1 ty92 (.tmp rfl) rfl rfl rfl | exact QW.load_box 1 ty92 (.tmp rfl) rfl (take_at (BT.cs_length _ _) rfl) (BT.cs_length _ _)) ?_
    first | refine JL.store_boxF 0 ty92 (.tmp rfl) rfl (.tmp rfl) (by first | rfl | assumption) (rfl) (rfl) rfl ?_ | refine JL.store_boxF 0 ty92 (.tmp rfl) rfl (.tmp rfl) (by first | rfl | assumption) (rfl) (BT.cs_length _ _) rfl ?_ | refine JL.store_boxF 0 ty92 (.tmp rfl) rfl (.tmp rfl) (by first | rfl | assumption) (BT.cs_length _ _) (rfl) rfl ?_ | refine JL.store_boxF 0 ty92 (.tmp rfl) rfl (.tmp rfl) (by first | rfl | assumption) (BT.cs_length _ _) (BT.cs_length _ _) rfl ?_ | refine JL.store_box 0 ty92 (.tmp rfl) rfl (.tmp rfl) (by first | rfl | assumption) rfl rfl rfl rfl ?_ | refine JL.store_box 0 ty92 (.tmp rfl) rfl (.tmp rfl) (by first | rfl | assumption) (BT.cs_length _ _) rfl rfl rfl ?_
    refine JL.nil ?_
    refine thenQ.n ?_
    refine J.ret ?_
    obtain rfl : j = l.length := by omega
    rw [List.take_length, List.drop_length]
    exact ⟨_, selP [.k, .k, .p] _, _, RetEv.one rfl (by first | exact REv.cell 0 ty92 rfl rfl rfl rfl (.refl _) | exact REv.cell 0 ty92 rfl rfl (take_at (BT.cs_length _ _) rfl) (BT.cs_length _ _) (.refl _)), rfl, sel_perm [.k, .k, .p] _, ⟨_, rfl, _, rfl, hs1, by simp [ItT.css]; rfl⟩⟩
theorem bclone_ok {fr : Bool} {q : BT} {ys : List AV} (hq : Bc fr q ys) (hw : q.wf) : Fn Try.prog 97 [.agg ys] q.av := .ofBown hw.it (bclone_own hq hw)
end Go.Proofs.Ytkiankpmkglhcaa.J

/- Fields of structs that are values, elements of arrays that are values. -/
namespace Go.Proofs.Ytkiankpmkglhcaa.J
open Go Go.RowKit
set_option linter.unusedVariables false
set_option linter.unusedSimpArgs false
/-- A field's type and place. -/
def fieldTy (P : Program) (s : TypeId) (f : Nat) : Option (TypeId × Nat) :=
  match P.underlying s with
  | some (.struct fs) => fs[f]?.map fun fd => (fd.type, fd.offset)
  | _ => none
section
variable {P : Program} {E : Ent} {st : St} {t t' et ty : TypeId} {pos : String} {af : Array Edge} {dd : Option Tmp} {gd : Option (Nat × Bool)} {x y : Operand} {w : World} {n B : Nat}
theorem fieldTy_get {s : TypeId} {f o : Nat} (h : fieldTy P s f = some (t', o)) : ∃ fs fd, P.underlying s = some (.struct fs) ∧ fs[f]? = some fd ∧ fd.type = t' ∧ fd.offset = o := by
  unfold fieldTy at h
  split at h
  · rename_i fs hu
    rw [Option.map_eq_some_iff] at h
    obtain ⟨fd, h1, h2⟩ := h
    exact ⟨fs, fd, hu, h1, (Prod.mk.inj h2).1, (Prod.mk.inj h2).2⟩
  · cases h
theorem run_part1 {cs : Array Value} {off : Nat} {v : Value} (hT : tySz P t' = some (false, n, B)) (hx : cs[off]? = some v) : (part t' cs off).run P w = .ok v w := by
  simp only [part, Sem.run_bind, run_isAgg hT, Result.andThen_ok, Bool.false_eq_true, if_false, hx, Sem.run_pure]
theorem Rd.part {A : Foot} {vs : Array Value} {ys : List AV} {off : Nat} (hn : vs.size = ys.length) (h : Cells w A vs 0 ys) (hle : off + n ≤ ys.length) : Rd w A (.agg (vs.extract off (off + n))) (.agg ((ys.drop off).take n)) := by
  refine .mk_agg (by simp; omega) fun k y hk => ?_
  rw [List.getElem?_take] at hk
  split at hk
  · rename_i hlt
    rw [List.getElem?_drop] at hk
    obtain ⟨u, h1, h0, h2⟩ := h _ y hk
    rw [Nat.zero_add] at h1 ⊢
    exact ⟨u, by rw [Array.getElem?_extract, if_pos (by omega)]; exact h1, h0, h2⟩
  · cases hk
theorem QW.field1 {ys : List AV} {f o : Nat} {z : AV} (hF : fieldTy P t f = some (t', o)) (hT : tySz P t' = some (false, n, B)) (h : Ev E st x (.agg ys)) (hz : ys[o]? = some z) : QW P E st ⟨dd, .field t x f, ty, pos, af, gd⟩ z := .pure fun A a w hs => by
  obtain ⟨fs, fd, hu, hfd, h1, h2⟩ := fieldTy_get hF
  obtain ⟨vs, hv, hn, hc⟩ := (h A a w hs).of_agg
  obtain ⟨u, k1, _, k2⟩ := hc o z hz
  rw [Nat.zero_add] at k1
  subst h1 h2
  exact ⟨u, by simp [execOp, Instr.field, run_underlying _ hu, hfd, hv, asAgg, run_part1 hT k1], k2⟩
end
/-! ### appends onto a slice that is read alone and has no spare places, or onto an own array -/
section
variable {P : Program} {E : Ent} {Q : Exit → St → Prop} {n : Nat} {env : List (Nat × AV)} {own : List Own} {F : List (Value × AV)} {D : List Deferred} {ops : Array Oper} {rest : List Oper} {c : Code}
variable {A : Foot} {a : Act} {w w' : World} {t tx et ty : TypeId} {pos : String} {af : Array Edge} {d : Nat} {dd : Option Tmp} {gd : Option (Nat × Bool)} {s x : Operand}
theorem JL.appendC (i : Nat) {fr : Bool} {e : ETy} {xs ys : List (List AV)} (hU : P.underlying t = some (.slice et)) (hE : elemB P et e = true) (hb0 : Nat.blt 0 e.bytes = true) (hsv : Ev E ⟨n, env, own, F, D⟩ s (.sl fr true e xs))
    (ho : own[i]? = some (.grp [])) (hx : ∀ A a w, SatA E A ⟨n, env, own, F, D⟩ a w → SrcA P w A tx (a.eval x) e ys) (hne : 0 < ys.length) (hreach : (xs.length + ys.length) * e.bytes ≤ reach) (hd : Nat.blt d n = true)
    (h : ∀ v', JL P E ops rest ⟨n, (d, .c v') :: env, own.set i (.arr v' e (xs ++ ys)), F, D⟩ Q) :
    JL P E ops (⟨some d, .call ⟨.builtin .append, #[s, x], #[t, tx]⟩, ty, pos, af, none⟩ :: rest) ⟨n, env, own, F, D⟩ Q := fun a w ⟨A, hA⟩ => by
  refine wpListIn_plain rfl fun K hK => ?_
  refine wpR (by intro c h; cases h) ?_
  unfold Oper.wp
  obtain ⟨ti, tz, hi, hsz, hby, hz, hzs, hz1⟩ := elemB_get hE
  obtain ⟨news, hsrc, hnc, hyl⟩ := hx A a w hA
  rw [← hsz] at hsrc
  have hb1 : 1 ≤ e.bytes := blt_lt hb0
  have hneed : xs.length + ys.length ≤ reach := Nat.le_trans (Nat.le_mul_of_pos_right _ hb1) hreach
  unfold reach at hneed hreach
  have hnl : news.length = ys.flatten.length := by rw [hsrc.newsLen, hsz, flatten_length ys hyl]
  have h63 : ((xs.length + ys.length : Nat) : Int) ≤ 9223372036854775807 := by omega
  have hfit : ∀ sCap, sCap < xs.length + ys.length → Builtin.nextslicecap (xs.length + ys.length) sCap * ti.bytes ≤ 281474976710656 := fun sCap hlt => growslice_fits hlt (by rw [hby]; omega)
  have hgw : ∀ fr b, A fr b → b < w.heap.size → ∀ o, (World.pushed (World.drawnBy w) o).heap[b]? = w.heap[b]? := fun fr b _ hlt o => (Keep.push [] (World.drawnBy w) o).block b hlt (by simp)
  obtain ⟨ad, cap, hv, hcl, _, hc⟩ := (hsv A a w hA).of_sl
  have hcap := hcl rfl
  subst hcap
  have hold : ∃ olds : List Value, (Builtin.firstCells ti.size xs.length (.slice ad xs.length xs.length)).run P w.drew = .ok olds.toArray w.drew ∧ olds.length = xs.flatten.length ∧ (∀ x ∈ xs, x.length = e.sz) ∧ Cells w A olds.toArray 0 xs.flatten := by
    rcases hc with rfl | ⟨b, off, cs, t', fz, rfl, hAb, hb, hxl, _, hc⟩
    · refine ⟨[], ?_, by simp, (fun _ h => by cases h), fun k y hk => by simp at hk⟩
      cases ad with
      | none => exact run_firstCells_none w.drew ti.size 0 0 0
      | some a' => exact run_firstCells_some w.drew ti.size 0 a' 0 0 [] (by simp) (by intro _ _ h'; simp at h')
    · have hfl := flatten_length xs hxl
      have hb' : w.drew.heap[b]? = some (.cells cs t' fz) := hb
      obtain ⟨vs, g1, g2, g3⟩ := cells_part (w := w) (o2 := 0) (mm := xs.flatten.length) hc hb (by omega)
      obtain ⟨vs', g1', g2', _⟩ := cells_part (w := w.drew) (A := A) (o2 := 0) (mm := xs.flatten.length) (hc.move (fun _ _ h _ => h) fun _ _ _ _ => rfl) hb' (by omega)
      rw [List.drop_zero, List.take_length] at g3
      refine ⟨vs, run_firstCells_some w.drew ti.size xs.length ⟨b, off, none⟩ xs.length xs.length vs (by rw [g1, hfl, hsz]) (fun j u hj => by
        have := g2 j u (by simpa using hj)
        rw [Nat.add_zero] at this
        exact this), g1, hxl, g3⟩
  obtain ⟨olds, hold, hol, hxl, hoc⟩ := hold
  have hlt : xs.length < xs.length + ys.length := by omega
  have hr := run_append_grow_src (P := P) w t tx ty et ti tz hU hi hz ad xs.length xs.length olds hold (a.eval x) ys.length news hsrc hlt h63 (hfit _ hlt)
  have hge := grownCap_ge w (xs.length + ys.length) xs.length et
  rw [run_builtin_append hv rfl hr, Oper.upon_value, alloc_eq]
  refine hK _ _ (h _ _ _ ⟨A, SatA.put ?_ (blt_lt hd) (.c _)⟩)
  have hd' := hA.draw
  obtain ⟨cap, hcap⟩ : ∃ cap, grownCap w (xs.length + ys.length) xs.length et = cap + 1 := ⟨grownCap w (xs.length + ys.length) xs.length et - 1, by omega⟩
  have hxy : (xs ++ ys).length = xs.length + ys.length := by simp
  refine hd'.step (.push _ _ _) (fun _ _ h => h) (hd'.hp.moved hd'.keep.size ho (o' := .arr _ e (xs ++ ys)) ?_ (.inr ⟨w.heap.size, cap, _, et, by rw [hxy, hcap], heap_pushed _ _, by omega, ?_, ?_, ?_⟩))
  · rw [hcap]; rfl
  · refine RowOf.grown ?_ (hoc.ones hol) hsrc.one hz1
    have hol' := flatten_length xs hxl
    have hyl' := flatten_length ys hyl
    simp only [Array.size_append, List.size_toArray, List.length_append, size_zeroCells, hzs, hol, hnl, hol', hyl', hcap]
    rw [← Nat.add_mul, ← Nat.add_mul]
    congr 1; omega
  · intro z hz'
    rcases List.mem_append.1 hz' with hz' | hz'
    · exact hxl z hz'
    · exact hyl z hz'
  · rw [List.flatten_append]
    intro k y hk
    rw [Nat.zero_add]
    by_cases hk1 : k < xs.flatten.length
    · rw [List.getElem?_append_left hk1] at hk
      obtain ⟨u, h1, h0, h2⟩ := hoc k y hk
      refine ⟨u, ?_, h0, h2.move (fun _ _ h _ => h) fun fr b hb hlt => hgw fr b hb hlt _⟩
      rw [Nat.zero_add] at h1
      rw [Array.getElem?_append_left (by simp; omega)]
      simp only [List.getElem?_toArray] at h1 ⊢
      rw [List.getElem?_append_left (by omega)]; exact h1
    · rw [List.getElem?_append_right (by omega)] at hk
      have hk2 := (List.getElem?_eq_some_iff.1 hk).1
      obtain ⟨u, h1, h0, h2⟩ := hnc _ y hk
      refine ⟨u, ?_, h0, h2.move (fun _ _ h _ => h) fun fr b hb hlt => hgw fr b hb hlt _⟩
      rw [Nat.zero_add] at h1
      rw [Array.getElem?_append_left (by simp; omega)]
      simp only [List.getElem?_toArray] at h1 ⊢
      rw [List.getElem?_append_right (by omega), hol]; exact h1
/-- A slice of xs that may be appended to: it is read alone and has no spare places, or it is an own array. -/
def AppOk (e : ETy) (x : AV) (o : Own) (xs : List (List AV)) : Prop := (∃ fr, x = .sl fr true e xs ∧ o = .grp []) ∨ ∃ v, x = .c v ∧ o = .arr v e xs
theorem JL.appendM (i : Nat) {z : AV} {o : Own} {e : ETy} {xs ys : List (List AV)} (hok : AppOk e z o xs) (hU : P.underlying t = some (.slice et)) (hE : elemB P et e = true) (hb0 : Nat.blt 0 e.bytes = true) (hsv : Ev E ⟨n, env, own, F, D⟩ s z)
    (ho : own[i]? = some o) (hx : ∀ A a w, SatA E A ⟨n, env, own, F, D⟩ a w → SrcA P w A tx (a.eval x) e ys) (hne : 0 < ys.length) (hreach : (xs.length + ys.length) * e.bytes ≤ reach) (hd : Nat.blt d n = true)
    (h : ∀ v', JL P E ops rest ⟨n, (d, .c v') :: env, own.set i (.arr v' e (xs ++ ys)), F, D⟩ Q) :
    JL P E ops (⟨some d, .call ⟨.builtin .append, #[s, x], #[t, tx]⟩, ty, pos, af, none⟩ :: rest) ⟨n, env, own, F, D⟩ Q := by
  rcases hok with ⟨fr, rfl, rfl⟩ | ⟨v, rfl, rfl⟩
  · exact JL.appendC i hU hE hb0 hsv ho hx hne hreach hd h
  · exact JL.append i hU hE hb0 hsv ho hx hreach hd h
theorem QW.lenM (i : Nat) {z : AV} {o : Own} {e : ETy} {xs : List (List AV)} (hok : AppOk e z o xs) (hU : P.underlying t = some (.slice et)) (h : Ev E ⟨n, env, own, F, D⟩ x z) (ho : own[i]? = some o) : QW P E ⟨n, env, own, F, D⟩ ⟨dd, .call ⟨.builtin .len, #[x], #[t]⟩, ty, pos, af, gd⟩ (.c (.int .i64 (xs.length : Int))) := by
  rcases hok with ⟨fr, rfl, rfl⟩ | ⟨v, rfl, rfl⟩
  · exact QW.len_sl hU h
  · exact QW.len_arr i hU h ho
/-- It is given up: it reads. -/
theorem J.closeM (i : Nat) {z : AV} {o : Own} {e : ETy} {xs : List (List AV)} {own' : List Own} (hok : AppOk e z o xs) (ho : own[i]? = some o) (hr : xs.length * e.bytes ≤ reach) (he : own.eraseIdx i = own') (hfp : ∀ b ∈ E.fp0, b ∈ fps own')
    (h : ∀ F' clip fr, (∀ p ∈ F, p ∈ F') → Le F' z (.sl fr clip e xs) → J P E c ⟨n, env, own', F', D⟩ Q) : J P E c ⟨n, env, own, F, D⟩ Q := by
  rcases hok with ⟨fr, rfl, rfl⟩ | ⟨v, rfl, rfl⟩
  · refine J.reown (own' := own') ?_ (h F true fr (fun _ h => h) (.refl _))
    have := (Reown.perm (perm_pick ho)).trans (Reown.dropN 1 _ rfl)
    rw [← he]
    exact this
  · exact J.closeArr i ho hr he hfp (h _ false true (fun _ h => List.mem_cons_of_mem _ h) (.fact (List.mem_cons_self) (.refl _)))
end
section
variable {P : Program} {E : Ent} {st : St} {ty : TypeId} {pos : String} {af : Array Edge} {dd : Option Tmp} {gd : Option (Nat × Bool)} {x y z : Operand}
end
end Go.Proofs.Ytkiankpmkglhcaa.J

/- Walks: the first that wait; an event's effects. -/
namespace Go.Proofs.Ytkiankpmkglhcaa.J
open Go Go.RowKit
set_option linter.unusedVariables false
set_option linter.unusedSimpArgs false
set_option maxRecDepth 10000
set_option maxHeartbeats 4000000
theorem BT.err_ok {q : BT} : q.err = 0 ↔ q.ok = true := by unfold BT.err; cases q.ok <;> simp
theorem BT.err_no {q : BT} (h : ¬ q.err = 0) : q.ok = false ∧ q.err = 9 := by unfold BT.err at *; cases hq : q.ok <;> simp_all
theorem BT.ok_inv {q : BT} (h : q.ok = true) : 0 ≤ q.last ∧ q.last ≤ 1099511627776 ∧ q.items.length ≤ 256 ∧ idsOk q.last 31 q.items = true := by
  unfold BT.ok at h; simp only [Bool.and_eq_true, decide_eq_true_eq] at h
  exact ⟨h.1.1.1, h.1.1.2, h.1.2, h.2⟩
def nextAV (q : BT) (n : Int) : AV := .tup [itsAV (q.next n).1, .c (.int .i64 (q.next n).2)]
theorem nextAV_of {q : BT} {n f : Int} {l : List ItT} (h : q.next n = (l, f)) : nextAV q n = .tup [itsAV l, .c (.int .i64 f)] := by simp [nextAV, h]
def addAV (q : BT) (seq : Int) (l : List EvT) : AV := .tup [(q.add seq l).1.av, .c (.int .i64 (q.add seq l).2)]
theorem addAV_of {q q' : BT} {seq f : Int} {l : List EvT} (h : q.add seq l = (q', f)) : addAV q seq l = .tup [q'.av, .c (.int .i64 f)] := by simp [addAV, h]
def ackAV (q : BT) (id : Int) : AV := .tup [(q.ack id).1.av, .c (.bool (q.ack id).2.1), .c (.int .i64 (q.ack id).2.2)]
theorem ackAV_of {q q' : BT} {id f : Int} {b : Bool} (h : q.ack id = (q', b, f)) : ackAV q id = .tup [q'.av, .c (.bool b), .c (.int .i64 f)] := by simp [ackAV, h]
theorem BT.wf.take {la : Int} {l : List ItT} (h : (BT.mk la l).wf) (k : Nat) : (BT.mk la (l.take k)).wf := ⟨h.l1, h.it.take k⟩
theorem take_min {α : Type} (l : List α) (k : Nat) : l.take (min k l.length) = l.take k := by
  by_cases h : k ≤ l.length
  · rw [Nat.min_eq_left h]
  · rw [Nat.min_eq_right (by omega), List.take_length, List.take_of_length_le (by omega)]
theorem bnext_ok {fr : Bool} {q : BT} {ys : List AV} (hq : Bc fr q ys) (n : Int) (hw : q.wf) : Fn Try.prog 58 [.agg ys, .c (.int .i64 n)] (nextAV q n) := by
  obtain ⟨la, l⟩ := q
  subst hq
  obtain ⟨hl1, hit⟩ := hw
  have hw : (BT.mk la l).wf := ⟨hl1, hit⟩
  simp only at hl1 hit
  have hlen := hit.len
  refine AC.of_J Try.func58 rfl Try.ntmps58 rfl fun w0 A0 => ?_
  refine J.seq ?_
  refine J.region_lit ?_
  refine JL.box_agg (.tmp rfl) rfl fun b2 => ?_
  refine JL.q rfl rfl rfl (QW.assign .const) ?_
  refine JL.q rfl rfl rfl (QW.assign .const) ?_
  refine JL.nil ?_
  refine thenQ.n ?_
  refine J.seq ?_
  refine J.seq ?_
  refine J.region_lit ?_
  refine JL.q rfl rfl rfl (by first | exact QW.load_box 0 ty92 (.tmp rfl) rfl rfl rfl | exact QW.load_box 0 ty92 (.tmp rfl) rfl (take_at (BT.cs_length _ _) rfl) (BT.cs_length _ _)) ?_
  refine JL.q rfl rfl rfl (QW.call gofn63 (.cons (.tmp rfl) .nil) (bcheck_ok Bc.mk hw)) ?_
  refine JL.q rfl rfl rfl (QW.assign (.tmp rfl)) ?_
  refine JL.nil ?_
  refine thenQ.n ?_
  refine J.seq ?_
  refine J.region_lit ?_
  refine JL.q rfl rfl rfl (QW.move (.tmp rfl)) ?_
  refine JL.q rfl rfl rfl (QW.neq (.tmp rfl) .const) ?_
  refine JL.nil ?_
  refine thenQ.n ?_
  refine J.cond (.tmp rfl) (fun c1 => ?_) (fun c1 => ?_)
  · skip
    simp at c1
    obtain ⟨hno, he9⟩ := BT.err_no c1
    refine J.seq ?_
    refine J.region_lit ?_
    refine JL.q rfl rfl rfl (QW.move (.tmp rfl)) ?_
    refine JL.q rfl rfl rfl (QW.assign .const) ?_
    refine JL.q rfl rfl rfl (QW.assign (.tmp rfl)) ?_
    refine JL.nil ?_
    refine thenQ.n ?_
    refine J.ret ?_
    refine thenQ.r ?_
    exact ⟨_, selP [.k] _, _, RetEv.two rfl (REv.tmp rfl (.nil true false eIt)) (REv.tmp rfl (.refl _)), rfl, sel_perm [.k] _, ⟨congrArg Res.ret (nextAV_of (q := ⟨la, l⟩) (n := n) (l := []) (f := (BT.mk la l).err) (by simp [BT.next, hno, he9])).symm, rfl⟩⟩
  · skip
    simp at c1
    have hok := BT.err_ok.1 c1
    obtain ⟨o1, o2, o3, o4⟩ := BT.ok_inv hok
    simp only at o1 o2 o3 o4
    refine J.skip ?_
    refine thenQ.n ?_
    refine J.seq ?_
    refine J.seq ?_
    refine J.region_lit ?_
    refine JL.q rfl rfl rfl (QW.move (.tmp rfl)) ?_
    refine JL.q rfl rfl rfl (QW.lss (.tmp rfl) .const) ?_
    refine JL.nil ?_
    refine thenQ.n ?_
    refine J.cond (.tmp rfl) (fun c2 => ?_) (fun c2 => ?_)
    · skip
      simp at c2
      refine J.seq ?_
      refine J.region_lit ?_
      refine JL.q rfl rfl rfl (QW.assign .const) ?_
      refine JL.q rfl rfl rfl (QW.assign .const) ?_
      refine JL.nil ?_
      refine thenQ.n ?_
      refine J.ret ?_
      refine thenQ.r ?_
      exact ⟨_, selP [.k] _, _, RetEv.two rfl (REv.tmp rfl (.nil true false eIt)) (REv.tmp rfl (.refl _)), rfl, sel_perm [.k] _, ⟨congrArg Res.ret (nextAV_of (q := ⟨la, l⟩) (n := n) (l := []) (f := 4) (by simp [BT.next, hok]; omega)).symm, rfl⟩⟩
    · skip
      simp at c2
      refine J.skip ?_
      refine thenQ.n ?_
      refine J.seq ?_
      refine J.region_lit ?_
      refine JL.q rfl rfl rfl (QW.field_ptr fo92_1 (.tmp rfl) rfl) ?_
      refine JL.q rfl rfl rfl (QW.load_box1 0 ty88 (.tmp rfl) rfl rfl) ?_
      refine JL.q rfl rfl rfl (QW.move (.tmp rfl)) ?_
      refine JL.q rfl rfl rfl (QW.field_ptr fo92_1 (.tmp rfl) rfl) ?_
      refine JL.q rfl rfl rfl (QW.load_box1 0 ty88 (.tmp rfl) rfl rfl) ?_
      refine JL.q rfl rfl rfl (by first | exact QW.len_slE sl88 (.tmp rfl) (ItT.css_length _ _) | exact QW.len_slE sl88 (.tmp rfl) (EvT.css_length _ _) | exact QW.len_sl sl88 (.tmp rfl) | exact QW.len_nil sl88 (.tmp rfl)) ?_
      refine JL.q rfl rfl rfl (QW.min2 (.tmp rfl) (.tmp rfl)) ?_
      refine JL.q rfl rfl rfl (QW.slice_H sl88 ty116 rfl (.tmp rfl) (Ev.le (.tmp rfl) (Le.intE (show _ = ((min n.toNat l.length : Nat) : Int) from by first | omega | (split <;> omega)))) rfl (by rw [ItT.css_length]; exact Nat.min_le_right _ _)) ?_
      refine JL.q rfl rfl rfl (QW.field_ptr fo92_1 (.tmp rfl) rfl) ?_
      refine JL.store_box 0 ty88 (.tmp rfl) rfl (.tmp rfl) (by first | rfl | assumption) rfl rfl rfl rfl ?_
      refine JL.nil ?_
      refine thenQ.n ?_
      refine J.seq ?_
      refine J.region_lit ?_
      refine JL.q rfl rfl rfl (by first | exact QW.load_box 0 ty92 (.tmp rfl) rfl rfl rfl | exact QW.load_box 0 ty92 (.tmp rfl) rfl (take_at (BT.cs_length _ _) rfl) (BT.cs_length _ _)) ?_
      refine JL.q rfl rfl rfl (QW.call gofn97 (.cons (Ev.le (.tmp rfl) (.aggL (.cons (.refl _) (.cons (by rw [ItT.css_take]; exact .refl _) .nil)))) .nil) (bclone_ok (q := ⟨la, l.take (min n.toNat l.length)⟩) Bc.mk (hw.take _))) ?_
      refine JL.q rfl rfl rfl (QW.field1 (t' := 88) (o := 1) (by kernel_rfl) ty88 (.tmp rfl) rfl) ?_
      refine JL.q rfl rfl rfl (QW.assign (.tmp rfl)) ?_
      refine JL.q rfl rfl rfl (QW.assign .const) ?_
      refine JL.nil ?_
      refine thenQ.n ?_
      refine J.ret ?_
      exact ⟨_, selP [.k] _, _, RetEv.two rfl (REv.tmp rfl (.refl _)) (REv.tmp rfl (.refl _)), rfl, sel_perm [.k] _, ⟨congrArg Res.ret (by rw [nextAV_of (q := ⟨la, l⟩) (n := n) (l := l.take (min n.toNat l.length)) (f := 0) (by rw [take_min]; unfold BT.next; rw [if_neg (by simp [hok]), if_neg (by omega)])]; try rfl), rfl⟩⟩
end Go.Proofs.Ytkiankpmkglhcaa.J

/- Walks: an event's effects, by the program and by the page. -/
namespace Go.Proofs.Ytkiankpmkglhcaa.J
open Go Go.RowKit
set_option linter.unusedVariables false
set_option linter.unusedSimpArgs false
set_option maxRecDepth 10000
set_option maxHeartbeats 4000000
theorem or32 {s j : Int} (hs : 0 ≤ s ∧ s ≤ 1099511627776) (hj : 0 ≤ j ∧ j < 32) : bitsOp .or .i64 (32 * s) j = 32 * s + j := by
  obtain ⟨a, rfl⟩ := Int.eq_ofNat_of_zero_le hs.1
  obtain ⟨b, rfl⟩ := Int.eq_ofNat_of_zero_le hj.1
  have hb : b < 2 ^ 5 := by omega
  have h1 : (BitVec.ofInt 64 (32 * (a : Int)) ||| BitVec.ofInt 64 (b : Int)).toNat = 32 * a + b := by
    rw [BitVec.toNat_or]
    have e1 : (BitVec.ofInt 64 (32 * (a : Int))).toNat = 2 ^ 5 * a := by
      rw [show (32 * (a : Int)) = ((32 * a : Nat) : Int) by push_cast; rfl, BitVec.ofInt_natCast, BitVec.toNat_ofNat]
      omega
    have e2 : (BitVec.ofInt 64 (b : Int)).toNat = b := by
      rw [BitVec.ofInt_natCast, BitVec.toNat_ofNat]
      omega
    rw [e1, e2, ← Nat.two_pow_add_eq_or_of_lt hb]
  show IntKind.i64.wrap ((BitVec.ofInt 64 (32 * (a : Int)) ||| BitVec.ofInt 64 (b : Int)).toNat : Nat) = _
  rw [h1, w64 (by omega)]
  push_cast
  rfl
theorem fill_it {c a0 a1 a2 a3 a4 a5 a6 : AV} {z : List AV} (hz : z.length = 6) : fillA ([(0, 1), (1, 6)].toArray[·]?) [a0, a1, a2, a3, a4, a5, a6] [(0, [c]), (1, z)] = some (c :: z) := by
  have h1 : splice [c, a1, a2, a3, a4, a5, a6] 1 z = c :: z := by
    rw [splice_succ, splice_all (by rw [hz]; rfl)]
  simp [fillA, splice_zero, hz, h1]
theorem numIt_snoc (seq : Int) : ∀ (l : List EvT) (e : EvT) (i : Nat), numIt seq i (l ++ [e]) = numIt seq i l ++ [⟨32 * seq + ((i + l.length : Nat) : Int), e⟩]
  | [], e, i => by simp [numIt]
  | x :: r, e, i => by
    have := numIt_snoc seq r e (i + 1)
    simp only [List.cons_append, numIt, this, List.length_cons]
    rw [show i + 1 + r.length = i + (r.length + 1) by omega]
theorem numIt_take {seq : Int} {m : List EvT} {j : Nat} (h : j < m.length) : numIt seq 0 (m.take (j + 1)) = numIt seq 0 (m.take j) ++ [⟨32 * seq + (j : Int), m[j]⟩] := by
  rw [List.take_succ_eq_append_getElem h, numIt_snoc, List.length_take, Nat.min_eq_left (by omega), Nat.zero_add]
theorem numIt_length (seq : Int) : ∀ (l : List EvT) (i : Nat), (numIt seq i l).length = l.length
  | [], _ => rfl
  | x :: r, i => by simp [numIt, numIt_length seq r]
theorem evsErr_at {m : List EvT} {j : Nat} (h : j < m.length) (h0 : evsErr (m.take j) = 0) (he : evErr m[j] ≠ 0) : evsErr m = evErr m[j] := by
  induction m generalizing j with
  | nil => simp at h
  | cons x r ih =>
    cases j with
    | zero => simp at he ⊢; simp [evsErr, he]
    | succ j =>
      simp only [List.take_succ_cons, evsErr] at h0
      split at h0
      · rename_i hx; exact absurd h0 hx
      · rename_i hx
        simp only [evsErr, if_neg hx]
        exact ih (by simpa using h) h0 (by simpa using he)
theorem evsErr_snoc {m : List EvT} {j : Nat} (h : j < m.length) (h0 : evsErr (m.take j) = 0) (he : evErr m[j] = 0) : evsErr (m.take (j + 1)) = 0 := by
  induction m generalizing j with
  | nil => simp at h
  | cons x r ih =>
    cases j with
    | zero => simp at he ⊢; simp [evsErr, he]
    | succ j =>
      simp only [List.take_succ_cons, evsErr] at h0 ⊢
      split at h0
      · rename_i hx; exact absurd h0 hx
      · rename_i hx
        rw [if_neg hx]
        exact ih (by simpa using h) h0 (by simpa using he)
theorem numIt_wf {seq : Int} (hs : 0 ≤ seq ∧ seq ≤ 1099511627776) : ∀ (m : List EvT) (i : Nat), i + m.length ≤ 1000 → (∀ e ∈ m, e.wf) → ∀ x ∈ numIt seq i m, x.wf
  | [], _, _, _ => fun x h => by cases h
  | e :: r, i, hi, hm => fun x h => by
    simp only [List.length_cons] at hi
    rcases List.mem_cons.1 h with rfl | h
    · exact ⟨by simp only; omega, hm e (by simp)⟩
    · exact numIt_wf hs r (i + 1) (by omega) (fun e he => hm e (by simp [he])) x h
theorem add_wf {la seq : Int} {l : List ItT} {m : List EvT} (hw : (BT.mk la l).wf) (hm : EvT.wfs m) (hs : 0 ≤ seq ∧ seq ≤ 1099511627776) (hl : l.length ≤ 256) (hml : m.length ≤ 32) : (BT.mk seq (l ++ numIt seq 0 m)).wf :=
  ⟨by simp only; omega, ⟨by rw [List.length_append, numIt_length]; unfold reach; omega, fun x hx => (List.mem_append.1 hx).elim (hw.it.2 x) (numIt_wf hs m 0 (by omega) hm.2 x)⟩⟩
theorem badd_ok {fr fr2 c2 : Bool} {q : BT} {m : List EvT} {ys : List AV} (hq : Bc fr q ys) (seq : Int) (hw : q.wf) (hm : EvT.wfs m) : Fn Try.prog 54 [.agg ys, .c (.int .i64 seq), .sl fr2 c2 eEv (EvT.css fr2 m)] (addAV q seq m) := by
  obtain ⟨la, l⟩ := q
  subst hq
  obtain ⟨hl1, hit⟩ := hw
  have hw : (BT.mk la l).wf := ⟨hl1, hit⟩
  simp only at hl1 hit
  have hlen := hit.len
  have hml := hm.len
  refine AC.of_J Try.func54 rfl Try.ntmps54 rfl fun w0 A0 => ?_
  refine J.seq ?_
  refine J.region_lit ?_
  refine JL.box_agg (.tmp rfl) rfl fun b3 => ?_
  refine JL.alloc z92 rfl rfl fun b6 => ?_
  refine JL.q rfl rfl rfl (QW.assign .const) ?_
  refine JL.nil ?_
  refine thenQ.n ?_
  refine J.seq ?_
  refine J.seq ?_
  refine J.region_lit ?_
  refine JL.q rfl rfl rfl (by first | exact QW.load_box 1 ty92 (.tmp rfl) rfl rfl rfl | exact QW.load_box 1 ty92 (.tmp rfl) rfl (take_at (BT.cs_length _ _) rfl) (BT.cs_length _ _)) ?_
  refine JL.q rfl rfl rfl (QW.call gofn63 (.cons (.tmp rfl) .nil) (bcheck_ok Bc.mk hw)) ?_
  refine JL.q rfl rfl rfl (QW.assign (.tmp rfl)) ?_
  refine JL.nil ?_
  refine thenQ.n ?_
  refine J.seq ?_
  refine J.region_lit ?_
  refine JL.q rfl rfl rfl (QW.move (.tmp rfl)) ?_
  refine JL.q rfl rfl rfl (QW.neq (.tmp rfl) .const) ?_
  refine JL.nil ?_
  refine thenQ.n ?_
  refine J.cond (.tmp rfl) (fun c1 => ?_) (fun c1 => ?_)
  · skip
    simp at c1
    obtain ⟨hno, he9⟩ := BT.err_no c1
    refine J.seq ?_
    refine J.region_lit ?_
    refine JL.q rfl rfl rfl (QW.build (idx := []) pl92 z92 rfl .nil rfl rfl rfl rfl) ?_
    refine JL.q rfl rfl rfl (QW.move (.tmp rfl)) ?_
    first | refine JL.store_boxF 0 ty92 (.tmp rfl) rfl (.tmp rfl) (by first | rfl | assumption) (rfl) (rfl) rfl ?_ | refine JL.store_boxF 0 ty92 (.tmp rfl) rfl (.tmp rfl) (by first | rfl | assumption) (rfl) (BT.cs_length _ _) rfl ?_ | refine JL.store_boxF 0 ty92 (.tmp rfl) rfl (.tmp rfl) (by first | rfl | assumption) (BT.cs_length _ _) (rfl) rfl ?_ | refine JL.store_boxF 0 ty92 (.tmp rfl) rfl (.tmp rfl) (by first | rfl | assumption) (BT.cs_length _ _) (BT.cs_length _ _) rfl ?_ | refine JL.store_box 0 ty92 (.tmp rfl) rfl (.tmp rfl) (by first | rfl | assumption) rfl rfl rfl rfl ?_ | refine JL.store_box 0 ty92 (.tmp rfl) rfl (.tmp rfl) (by first | rfl | assumption) (BT.cs_length _ _) rfl rfl rfl ?_
    refine JL.q rfl rfl rfl (QW.assign (.tmp rfl)) ?_
    refine JL.nil ?_
    refine thenQ.n ?_
    refine J.ret ?_
    refine thenQ.r ?_
    exact ⟨_, selP [.k, .k] _, _, RetEv.two rfl (by first | exact REv.cell 0 ty92 rfl rfl rfl rfl (.aggL (.cons (.refl _) (.cons (.nil true false eIt) .nil))) | exact REv.cell 0 ty92 rfl rfl (take_at (BT.cs_length _ _) rfl) (BT.cs_length _ _) (.aggL (.cons (.refl _) (.cons (.nil true false eIt) .nil)))) (REv.tmp rfl (.refl _)), rfl, sel_perm [.k, .k] _, ⟨congrArg Res.ret (addAV_of (q := ⟨la, l⟩) (seq := seq) (l := m) (q' := .nil) (f := (BT.mk la l).err) (by simp [BT.add, hno, he9])).symm, rfl⟩⟩
  · skip
    simp at c1
    have hok := BT.err_ok.1 c1
    obtain ⟨o1, o2, o3, o4⟩ := BT.ok_inv hok
    simp only at o1 o2 o3 o4
    refine J.skip ?_
    refine thenQ.n ?_
    refine J.seq ?_
    refine J.block ?_
    refine J.seq ?_
    refine J.region_lit ?_
    refine JL.q rfl rfl rfl (QW.move (.tmp rfl)) ?_
    refine JL.q rfl rfl rfl (QW.field_ptr fo92_0 (.tmp rfl) rfl) ?_
    refine JL.q rfl rfl rfl (QW.load_box1 1 ty3 (.tmp rfl) rfl rfl) ?_
    refine JL.q rfl rfl rfl (QW.leq (.tmp rfl) (.tmp rfl)) ?_
    refine JL.q rfl rfl rfl (QW.assign (.tmp rfl)) ?_
    refine JL.nil ?_
    refine thenQ.n ?_
    refine J.cond (.tmp rfl) (fun c2 => ?_) (fun c2 => ?_)
    · skip
      simp at c2
      refine J.seq ?_
      refine J.region_lit ?_
      refine JL.q rfl rfl rfl (QW.build (idx := []) pl92 z92 rfl .nil rfl rfl rfl rfl) ?_
      first | refine JL.store_boxF 0 ty92 (.tmp rfl) rfl (.tmp rfl) (by first | rfl | assumption) (rfl) (rfl) rfl ?_ | refine JL.store_boxF 0 ty92 (.tmp rfl) rfl (.tmp rfl) (by first | rfl | assumption) (rfl) (BT.cs_length _ _) rfl ?_ | refine JL.store_boxF 0 ty92 (.tmp rfl) rfl (.tmp rfl) (by first | rfl | assumption) (BT.cs_length _ _) (rfl) rfl ?_ | refine JL.store_boxF 0 ty92 (.tmp rfl) rfl (.tmp rfl) (by first | rfl | assumption) (BT.cs_length _ _) (BT.cs_length _ _) rfl ?_ | refine JL.store_box 0 ty92 (.tmp rfl) rfl (.tmp rfl) (by first | rfl | assumption) rfl rfl rfl rfl ?_ | refine JL.store_box 0 ty92 (.tmp rfl) rfl (.tmp rfl) (by first | rfl | assumption) (BT.cs_length _ _) rfl rfl rfl ?_
      refine JL.q rfl rfl rfl (QW.assign .const) ?_
      refine JL.nil ?_
      refine thenQ.n ?_
      refine J.ret ?_
      refine blkQ.r ?_
      refine thenQ.r ?_
      exact ⟨_, selP [.k, .k] _, _, RetEv.two rfl (by first | exact REv.cell 0 ty92 rfl rfl rfl rfl (.aggL (.cons (.refl _) (.cons (.nil true false eIt) .nil))) | exact REv.cell 0 ty92 rfl rfl (take_at (BT.cs_length _ _) rfl) (BT.cs_length _ _) (.aggL (.cons (.refl _) (.cons (.nil true false eIt) .nil)))) (REv.tmp rfl (.refl _)), rfl, sel_perm [.k, .k] _, ⟨congrArg Res.ret (addAV_of (q := ⟨la, l⟩) (seq := seq) (l := m) (q' := .nil) (f := 32) (by unfold BT.add; rw [if_neg (by simp [hok]), if_pos (by (try simp only); omega)])).symm, rfl⟩⟩
    · skip
      simp at c2
      refine J.seq ?_
      refine J.region_lit ?_
      refine JL.q rfl rfl rfl (QW.move (.tmp rfl)) ?_
      refine JL.q rfl rfl rfl (QW.gtr (.tmp rfl) .const) ?_
      refine JL.q rfl rfl rfl (QW.assign (.tmp rfl)) ?_
      refine JL.nil ?_
      refine thenQ.n ?_
      refine J.cond (.tmp rfl) (fun c3 => ?_) (fun c3 => ?_)
      · skip
        simp at c3
        refine J.seq ?_
        refine J.region_lit ?_
        refine JL.q rfl rfl rfl (QW.build (idx := []) pl92 z92 rfl .nil rfl rfl rfl rfl) ?_
        first | refine JL.store_boxF 0 ty92 (.tmp rfl) rfl (.tmp rfl) (by first | rfl | assumption) (rfl) (rfl) rfl ?_ | refine JL.store_boxF 0 ty92 (.tmp rfl) rfl (.tmp rfl) (by first | rfl | assumption) (rfl) (BT.cs_length _ _) rfl ?_ | refine JL.store_boxF 0 ty92 (.tmp rfl) rfl (.tmp rfl) (by first | rfl | assumption) (BT.cs_length _ _) (rfl) rfl ?_ | refine JL.store_boxF 0 ty92 (.tmp rfl) rfl (.tmp rfl) (by first | rfl | assumption) (BT.cs_length _ _) (BT.cs_length _ _) rfl ?_ | refine JL.store_box 0 ty92 (.tmp rfl) rfl (.tmp rfl) (by first | rfl | assumption) rfl rfl rfl rfl ?_ | refine JL.store_box 0 ty92 (.tmp rfl) rfl (.tmp rfl) (by first | rfl | assumption) (BT.cs_length _ _) rfl rfl rfl ?_
        refine JL.q rfl rfl rfl (QW.assign .const) ?_
        refine JL.nil ?_
        refine thenQ.n ?_
        refine J.ret ?_
        refine blkQ.r ?_
        refine thenQ.r ?_
        exact ⟨_, selP [.k, .k] _, _, RetEv.two rfl (by first | exact REv.cell 0 ty92 rfl rfl rfl rfl (.aggL (.cons (.refl _) (.cons (.nil true false eIt) .nil))) | exact REv.cell 0 ty92 rfl rfl (take_at (BT.cs_length _ _) rfl) (BT.cs_length _ _) (.aggL (.cons (.refl _) (.cons (.nil true false eIt) .nil)))) (REv.tmp rfl (.refl _)), rfl, sel_perm [.k, .k] _, ⟨congrArg Res.ret (addAV_of (q := ⟨la, l⟩) (seq := seq) (l := m) (q' := .nil) (f := 4) (by unfold BT.add; rw [if_neg (by simp [hok]), if_neg (by (try simp only); omega), if_pos (by (try simp only); omega)])).symm, rfl⟩⟩
      · skip
        simp at c3
        refine J.seq ?_
        refine J.region_lit ?_
        refine JL.q rfl rfl rfl (QW.move (.tmp rfl)) ?_
        refine JL.q rfl rfl rfl (by first | exact QW.len_slE sl91 (.tmp rfl) (ItT.css_length _ _) | exact QW.len_slE sl91 (.tmp rfl) (EvT.css_length _ _) | exact QW.len_sl sl91 (.tmp rfl) | exact QW.len_nil sl91 (.tmp rfl)) ?_
        refine JL.q rfl rfl rfl (QW.gtr (.tmp rfl) .const) ?_
        refine JL.q rfl rfl rfl (QW.assign (.tmp rfl)) ?_
        refine JL.nil ?_
        refine thenQ.n ?_
        refine J.cond (.tmp rfl) (fun c4 => ?_) (fun c4 => ?_)
        · skip
          simp [EvT.css_length] at c4
          refine J.seq ?_
          refine J.region_lit ?_
          refine JL.q rfl rfl rfl (QW.build (idx := []) pl92 z92 rfl .nil rfl rfl rfl rfl) ?_
          first | refine JL.store_boxF 0 ty92 (.tmp rfl) rfl (.tmp rfl) (by first | rfl | assumption) (rfl) (rfl) rfl ?_ | refine JL.store_boxF 0 ty92 (.tmp rfl) rfl (.tmp rfl) (by first | rfl | assumption) (rfl) (BT.cs_length _ _) rfl ?_ | refine JL.store_boxF 0 ty92 (.tmp rfl) rfl (.tmp rfl) (by first | rfl | assumption) (BT.cs_length _ _) (rfl) rfl ?_ | refine JL.store_boxF 0 ty92 (.tmp rfl) rfl (.tmp rfl) (by first | rfl | assumption) (BT.cs_length _ _) (BT.cs_length _ _) rfl ?_ | refine JL.store_box 0 ty92 (.tmp rfl) rfl (.tmp rfl) (by first | rfl | assumption) rfl rfl rfl rfl ?_ | refine JL.store_box 0 ty92 (.tmp rfl) rfl (.tmp rfl) (by first | rfl | assumption) (BT.cs_length _ _) rfl rfl rfl ?_
          refine JL.q rfl rfl rfl (QW.assign .const) ?_
          refine JL.nil ?_
          refine thenQ.n ?_
          refine J.ret ?_
          refine blkQ.r ?_
          refine thenQ.r ?_
          exact ⟨_, selP [.k, .k] _, _, RetEv.two rfl (by first | exact REv.cell 0 ty92 rfl rfl rfl rfl (.aggL (.cons (.refl _) (.cons (.nil true false eIt) .nil))) | exact REv.cell 0 ty92 rfl rfl (take_at (BT.cs_length _ _) rfl) (BT.cs_length _ _) (.aggL (.cons (.refl _) (.cons (.nil true false eIt) .nil)))) (REv.tmp rfl (.refl _)), rfl, sel_perm [.k, .k] _, ⟨congrArg Res.ret (addAV_of (q := ⟨la, l⟩) (seq := seq) (l := m) (q' := .nil) (f := 3) (by unfold BT.add; rw [if_neg (by simp [hok]), if_neg (by (try simp only); omega), if_neg (by (try simp only); omega), if_pos (by (try simp only); omega)])).symm, rfl⟩⟩
        · skip
          simp [EvT.css_length] at c4
          have hs1 : 0 ≤ seq ∧ seq ≤ 1099511627776 := by omega
          have hm32 : m.length ≤ 32 := by omega
          refine J.skip ?_
          refine blkQ.n ?_
          refine thenQ.n ?_
          refine J.seq ?_
          refine J.region_lit ?_
          refine JL.q rfl rfl rfl (QW.move (.tmp rfl)) ?_
          refine JL.q rfl rfl rfl (QW.field_ptr fo92_0 (.tmp rfl) rfl) ?_
          refine JL.store_box 1 ty3 (.tmp rfl) rfl (.tmp rfl) (by first | rfl | assumption) rfl rfl rfl rfl ?_
          refine JL.nil ?_
          refine thenQ.n ?_
          refine J.seq ?_
          refine J.region_lit ?_
          refine JL.q rfl rfl rfl (QW.field_ptr fo92_1 (.tmp rfl) rfl) ?_
          refine JL.q rfl rfl rfl (QW.load_box1 1 ty88 (.tmp rfl) rfl rfl) ?_
          refine JL.q rfl rfl rfl (QW.call gofn95 (.cons (.tmp rfl) .nil) (clipIt_ok _)) ?_
          refine JL.q rfl rfl rfl (QW.field_ptr fo92_1 (.tmp rfl) rfl) ?_
          refine JL.store_box 1 ty88 (.tmp rfl) rfl (.tmp rfl) (by first | rfl | assumption) rfl rfl rfl rfl ?_
          refine JL.nil ?_
          refine thenQ.n ?_
          refine J.seq ?_
          refine J.seq ?_
          refine J.region_lit ?_
          refine JL.q rfl rfl rfl (QW.move (.tmp rfl)) ?_
          refine JL.q rfl rfl rfl (by first | exact QW.len_slE sl91 (.tmp rfl) (ItT.css_length _ _) | exact QW.len_slE sl91 (.tmp rfl) (EvT.css_length _ _) | exact QW.len_sl sl91 (.tmp rfl) | exact QW.len_nil sl91 (.tmp rfl)) ?_
          refine JL.q rfl rfl rfl (QW.move .const) ?_
          refine JL.nil ?_
          refine thenQ.n ?_
          refine J.block ?_
          refine J.reown (Reown.nilGrpE _) ?_
          refine J.loopK (ι := Nat × AV × Own) [1, 3, 6, 39, 40] (fun ⟨j, x, o⟩ => [(41, .c (.int .i64 (j : Int)))]) (fun ⟨j, x, o⟩ oo => List.set (List.set oo 1 (.box b3 [.c (.int .i64 seq), x])) 2 (o)) (fun ⟨j, x, o⟩ => j ≤ m.length ∧ AppOk eIt x o (ItT.css fr l ++ ItT.css fr2 (numIt seq 0 (m.take j))) ∧ evsErr (m.take j) = 0) (fun ⟨j, x, o⟩ => m.length - j) ⟨0, .sl fr true eIt (ItT.css fr l), .grp []⟩ (⟨Nat.zero_le _, .inl ⟨fr, by simp [numIt, ItT.css], rfl⟩, rfl⟩) (Wk.re (.cons rfl (.refl _) (.cons rfl (.refl _) (.cons rfl (.refl _) (.cons rfl (.refl _) (.cons rfl (.refl _) (.cons rfl (.refl _) .nil)))))) (Reown.refl _) (fun _ h => by first | exact h | simp [h])) ?_
          intro ⟨j, x, o⟩ ⟨hj, hX, hE⟩
          refine J.conv (by (try simp only [stepsO, List.map_cons, List.map_nil, valO, nthO, curO, mrg, List.reverse_cons, List.reverse_nil, List.nil_append, List.cons_append, List.append_nil, List.getElem?_cons_zero, List.getElem?_cons_succ, Option.map_some, Option.getD_some, List.set_cons_zero, List.set_cons_succ, AV.cellsOf, splice_zero, splice_succ, Nat.zero_add, Nat.reduceAdd]); rfl) ?_
          refine J.seq ?_
          refine J.region_lit ?_
          refine JL.q rfl rfl rfl (QW.lss (.tmp rfl) (.tmp rfl)) ?_
          refine JL.nil ?_
          refine thenQ.n ?_
          refine J.seq ?_
          refine J.cond (.tmp rfl) (fun c5 => ?_) (fun c5 => ?_)
          · skip
            have hlt : j < m.length := by simpa [EvT.css_length] using c5
            refine J.skip ?_
            refine thenQ.n ?_
            refine J.seq ?_
            refine J.block ?_
            refine J.seq ?_
            refine J.region_lit ?_
            refine JL.q rfl rfl rfl (QW.move (.tmp rfl)) ?_
            refine JL.q rfl rfl rfl (QW.index_sl sl91 ty114 rfl (.tmp rfl) (.tmp rfl) (by first | rfl | omega | (simp; done)) (by exact EvT.css_getE _ hlt)) ?_
            refine JL.q rfl rfl rfl (by first | exact QW.load_ref ty114 (.tmp rfl) rfl rfl | exact QW.load_ref ty114 (.tmp rfl) (take_at0 (EvT.cs_length _ _) rfl) (EvT.cs_length _ _)) ?_
            refine JL.alloc z114 rfl rfl fun b10 => ?_
            refine JL.q rfl rfl rfl (QW.assign (.tmp rfl)) ?_
            first | refine JL.store_boxF 0 ty114 (.tmp rfl) rfl (.tmp rfl) (by first | rfl | assumption) (rfl) (rfl) rfl ?_ | refine JL.store_boxF 0 ty114 (.tmp rfl) rfl (.tmp rfl) (by first | rfl | assumption) (rfl) (EvT.cs_length _ _) rfl ?_ | refine JL.store_boxF 0 ty114 (.tmp rfl) rfl (.tmp rfl) (by first | rfl | assumption) (EvT.cs_length _ _) (rfl) rfl ?_ | refine JL.store_boxF 0 ty114 (.tmp rfl) rfl (.tmp rfl) (by first | rfl | assumption) (EvT.cs_length _ _) (EvT.cs_length _ _) rfl ?_ | refine JL.store_box 0 ty114 (.tmp rfl) rfl (.tmp rfl) (by first | rfl | assumption) rfl rfl rfl rfl ?_ | refine JL.store_box 0 ty114 (.tmp rfl) rfl (.tmp rfl) (by first | rfl | assumption) (EvT.cs_length _ _) rfl rfl rfl ?_
            refine JL.nil ?_
            refine thenQ.n ?_
            refine J.seq ?_
            refine J.seq ?_
            refine J.region_lit ?_
            refine JL.q rfl rfl rfl (by first | exact QW.load_box 0 ty114 (.tmp rfl) rfl rfl rfl | exact QW.load_box 0 ty114 (.tmp rfl) rfl (take_at (EvT.cs_length _ _) rfl) (EvT.cs_length _ _)) ?_
            refine JL.q rfl rfl rfl (QW.call gofn96 (.cons (.tmp rfl) .nil) (effect_ok Ec.self (hm.2 _ (List.getElem_mem hlt)))) ?_
            refine JL.q rfl rfl rfl (QW.assign (.tmp rfl)) ?_
            refine JL.nil ?_
            refine thenQ.n ?_
            refine J.seq ?_
            refine J.region_lit ?_
            refine JL.q rfl rfl rfl (QW.move (.tmp rfl)) ?_
            refine JL.q rfl rfl rfl (QW.neq (.tmp rfl) .const) ?_
            refine JL.nil ?_
            refine thenQ.n ?_
            refine J.cond (.tmp rfl) (fun c6 => ?_) (fun c6 => ?_)
            · skip
              simp at c6
              have hee := c6
              refine J.seq ?_
              refine J.region_lit ?_
              refine JL.q rfl rfl rfl (QW.build (idx := []) pl92 z92 rfl .nil rfl rfl rfl rfl) ?_
              refine JL.q rfl rfl rfl (QW.move (.tmp rfl)) ?_
              first | refine JL.store_boxF 1 ty92 (.tmp rfl) rfl (.tmp rfl) (by first | rfl | assumption) (rfl) (rfl) rfl ?_ | refine JL.store_boxF 1 ty92 (.tmp rfl) rfl (.tmp rfl) (by first | rfl | assumption) (rfl) (BT.cs_length _ _) rfl ?_ | refine JL.store_boxF 1 ty92 (.tmp rfl) rfl (.tmp rfl) (by first | rfl | assumption) (BT.cs_length _ _) (rfl) rfl ?_ | refine JL.store_boxF 1 ty92 (.tmp rfl) rfl (.tmp rfl) (by first | rfl | assumption) (BT.cs_length _ _) (BT.cs_length _ _) rfl ?_ | refine JL.store_box 1 ty92 (.tmp rfl) rfl (.tmp rfl) (by first | rfl | assumption) rfl rfl rfl rfl ?_ | refine JL.store_box 1 ty92 (.tmp rfl) rfl (.tmp rfl) (by first | rfl | assumption) (BT.cs_length _ _) rfl rfl rfl ?_
              refine JL.q rfl rfl rfl (QW.assign (.tmp rfl)) ?_
              refine JL.nil ?_
              refine thenQ.n ?_
              refine J.ret ?_
              refine thenQ.r ?_
              refine blkQ.r ?_
              refine thenQ.r ?_
              refine thenQ.r ?_
              refine blkQ.r ?_
              refine thenQ.r ?_
              exact ⟨_, selP [.k, .k, .k, .k] _, _, RetEv.two rfl (by first | exact REv.cell 1 ty92 rfl rfl rfl rfl (.aggL (.cons (.refl _) (.cons (.nil true false eIt) .nil))) | exact REv.cell 1 ty92 rfl rfl (take_at (BT.cs_length _ _) rfl) (BT.cs_length _ _) (.aggL (.cons (.refl _) (.cons (.nil true false eIt) .nil)))) (REv.tmp rfl (.refl _)), rfl, sel_perm [.k, .k, .k, .k] _, ⟨congrArg Res.ret (addAV_of (q := ⟨la, l⟩) (seq := seq) (l := m) (q' := .nil) (f := evErr (m[j]'hlt)) (by unfold BT.add; rw [if_neg (by simp [hok]), if_neg (by (try simp only); omega), if_neg (by (try simp only); omega), if_neg (by (try simp only); omega), evsErr_at hlt hE hee, if_pos hee])).symm, rfl⟩⟩
            · skip
              simp at c6
              have hee := c6
              refine J.skip ?_
              refine thenQ.n ?_
              refine J.region_lit ?_
              refine JL.q rfl rfl rfl (QW.field_ptr fo92_1 (.tmp rfl) rfl) ?_
              refine JL.q rfl rfl rfl (QW.load_box1 2 ty88 (.tmp rfl) rfl rfl) ?_
              refine JL.q rfl rfl rfl (QW.move (.tmp rfl)) ?_
              refine JL.q rfl rfl rfl (QW.mul .const (.tmp rfl) (by first | exact w64n (by first | rfl | omega | (simp; done)) (by omega) | exact w64 (by omega) | rfl)) ?_
              refine JL.q rfl rfl rfl (QW.move (.tmp rfl)) ?_
              refine JL.q rfl rfl rfl (QW.or (.tmp rfl) (.tmp rfl) (or32 hs1 (by omega))) ?_
              refine JL.q rfl rfl rfl (by first | exact QW.load_box 0 ty114 (.tmp rfl) rfl rfl rfl | exact QW.load_box 0 ty114 (.tmp rfl) rfl (take_at (EvT.cs_length _ _) rfl) (EvT.cs_length _ _)) ?_
              refine JL.q rfl rfl rfl (QW.build (idx := [0, 1]) pl116 z116 rfl (.cons (.tmp rfl) (.cons (.tmp rfl) .nil)) rfl rfl rfl (by exact fill_it (EvT.cs_length _ _))) ?_
              refine JL.q rfl rfl rfl (QW.buildSlice (idx := [0]) (xs := [ItT.cs fr2 ⟨32 * seq + (j : Int), m[j]'hlt⟩]) sl88 el116 z116 rfl (.cons (.tmp rfl) .nil) rfl rfl rfl rfl rfl (by exact fill_one (e := eIt) (z := ItT.cs fr2 ⟨32 * seq + (j : Int), m[j]'hlt⟩) (ItT.cs_length _ _)) rfl (all_one (ItT.cs_length _ _)) rfl) ?_
              refine JL.appendM 3 hX sl88 el116 rfl (.tmp rfl) rfl (srcA_sl sl88 (.tmp rfl)) (by simp) (by rw [List.length_append, ItT.css_length, ItT.css_length, numIt_length, List.length_take]; simp only [List.length_singleton]; show _ * 104 ≤ _; unfold reach; omega) rfl fun v61 => ?_
              refine JL.isSlice 3 rfl fun hs2 => ?_
              refine JL.q rfl rfl rfl (QW.field_ptr fo92_1 (.tmp rfl) rfl) ?_
              refine JL.store_box 2 ty88 (.tmp rfl) rfl (.tmp rfl) (by first | rfl | assumption) rfl rfl rfl rfl ?_
              refine JL.nil ?_
              refine blkQ.n ?_
              refine thenQ.n ?_
              refine J.region_lit ?_
              refine JL.q rfl rfl rfl (QW.add (.tmp rfl) .const (by first | exact w64n (by first | rfl | omega | (simp; done)) (by omega) | exact w64 (by omega) | rfl)) ?_
              refine JL.q rfl rfl rfl (QW.move (.tmp rfl)) ?_
              refine JL.nil ?_
              refine thenQ.n ?_
              exact ⟨⟨j + 1, .c v61, .arr v61 eIt (ItT.css fr l ++ ItT.css fr2 (numIt seq 0 (m.take j)) ++ [ItT.cs fr2 ⟨32 * seq + (j : Int), m[j]'hlt⟩])⟩, ⟨hlt, .inr ⟨v61, rfl, by rw [numIt_take hlt, ItT.css_append, ← List.append_assoc]; rfl⟩, evsErr_snoc hlt hE hee⟩, by show m.length - (j + 1) < m.length - j; omega, Wk.re (.cons rfl (.refl _) (.cons rfl (.refl _) (.cons rfl (.refl _) (.cons rfl (.refl _) (.cons rfl (.refl _) (.cons rfl (.refl _) .nil)))))) (Reown.dropN 1 _ rfl) (fun _ h => by first | exact h | simp [h])⟩
          · skip
            have hge : m.length ≤ j := by (simp [EvT.css_length] at c5; omega)
            obtain rfl : j = m.length := by omega
            rw [List.take_length] at hX hE
            refine J.exit ?_
            refine thenQ.x ?_
            refine thenQ.x ?_
            refine blkQ.hit ?_
            refine thenQ.n ?_
            refine J.seq ?_
            refine J.seq ?_
            refine J.region_lit ?_
            refine JL.q rfl rfl rfl (QW.field_ptr fo92_1 (.tmp rfl) rfl) ?_
            refine JL.q rfl rfl rfl (QW.load_box1 1 ty88 (.tmp rfl) rfl rfl) ?_
            refine JL.q rfl rfl rfl (QW.lenM 2 hX sl88 (.tmp rfl) rfl) ?_
            refine JL.q rfl rfl rfl (QW.gtr (.tmp rfl) .const) ?_
            refine JL.nil ?_
            refine thenQ.n ?_
            refine J.cond (.tmp rfl) (fun c6 => ?_) (fun c6 => ?_)
            · skip
              simp [ItT.css_length, numIt_length] at c6
              refine J.seq ?_
              refine J.region_lit ?_
              refine JL.q rfl rfl rfl (QW.build (idx := []) pl92 z92 rfl .nil rfl rfl rfl rfl) ?_
              first | refine JL.store_boxF 0 ty92 (.tmp rfl) rfl (.tmp rfl) (by first | rfl | assumption) (rfl) (rfl) rfl ?_ | refine JL.store_boxF 0 ty92 (.tmp rfl) rfl (.tmp rfl) (by first | rfl | assumption) (rfl) (BT.cs_length _ _) rfl ?_ | refine JL.store_boxF 0 ty92 (.tmp rfl) rfl (.tmp rfl) (by first | rfl | assumption) (BT.cs_length _ _) (rfl) rfl ?_ | refine JL.store_boxF 0 ty92 (.tmp rfl) rfl (.tmp rfl) (by first | rfl | assumption) (BT.cs_length _ _) (BT.cs_length _ _) rfl ?_ | refine JL.store_box 0 ty92 (.tmp rfl) rfl (.tmp rfl) (by first | rfl | assumption) rfl rfl rfl rfl ?_ | refine JL.store_box 0 ty92 (.tmp rfl) rfl (.tmp rfl) (by first | rfl | assumption) (BT.cs_length _ _) rfl rfl rfl ?_
              refine JL.q rfl rfl rfl (QW.assign .const) ?_
              refine JL.nil ?_
              refine thenQ.n ?_
              refine J.ret ?_
              refine thenQ.r ?_
              exact ⟨_, selP [.k, .k, .k] _, _, RetEv.two rfl (by first | exact REv.cell 0 ty92 rfl rfl rfl rfl (.aggL (.cons (.refl _) (.cons (.nil true false eIt) .nil))) | exact REv.cell 0 ty92 rfl rfl (take_at (BT.cs_length _ _) rfl) (BT.cs_length _ _) (.aggL (.cons (.refl _) (.cons (.nil true false eIt) .nil)))) (REv.tmp rfl (.refl _)), rfl, sel_perm [.k, .k, .k] _, ⟨congrArg Res.ret (addAV_of (q := ⟨la, l⟩) (seq := seq) (l := m) (q' := .nil) (f := 51) (by unfold BT.add; rw [if_neg (by simp [hok]), if_neg (by (try simp only); omega), if_neg (by (try simp only); omega), if_neg (by (try simp only); omega), if_neg (by simp [hE]), if_pos (by (try simp only); omega)])).symm, rfl⟩⟩
            · skip
              simp [ItT.css_length, numIt_length] at c6
              refine J.skip ?_
              refine thenQ.n ?_
              refine J.seq ?_
              refine J.closeM 2 hX rfl (by rw [List.length_append, ItT.css_length, ItT.css_length, numIt_length]; show _ * 104 ≤ _; unfold reach; omega) rfl (fun _ h => by cases h) fun F2 cl fl hF hle => ?_
              refine J.region_lit ?_
              refine JL.q rfl rfl rfl (by first | exact QW.load_box 1 ty92 (.tmp rfl) rfl rfl rfl | exact QW.load_box 1 ty92 (.tmp rfl) rfl (take_at (BT.cs_length _ _) rfl) (BT.cs_length _ _)) ?_
              refine JL.q rfl rfl rfl (QW.call gofn97 (.cons (Ev.le (Ev.le (.tmp rfl) (.aggL (.cons (.refl _) (.cons hle .nil)))) (.aggL (.cons (.refl _) (.cons (Le.slL (fun h => by cases h) (by simp [ItT.css]) (ItT.css_sz false _) (by rw [ItT.css_append, List.flatten_append, List.flatten_append]; exact LeL.append (ItT.css_le fr false (fun h => by cases h) l) (ItT.css_le fr2 false (fun h => by cases h) _))) .nil)))) .nil) (bclone_ok (fr := false) (q := ⟨seq, l ++ numIt seq 0 m⟩) Bc.mk (add_wf hw hm hs1 o3 hm32))) ?_
              first | refine JL.store_boxF 0 ty92 (.tmp rfl) rfl (.tmp rfl) (by first | rfl | assumption) (rfl) (rfl) rfl ?_ | refine JL.store_boxF 0 ty92 (.tmp rfl) rfl (.tmp rfl) (by first | rfl | assumption) (rfl) (BT.cs_length _ _) rfl ?_ | refine JL.store_boxF 0 ty92 (.tmp rfl) rfl (.tmp rfl) (by first | rfl | assumption) (BT.cs_length _ _) (rfl) rfl ?_ | refine JL.store_boxF 0 ty92 (.tmp rfl) rfl (.tmp rfl) (by first | rfl | assumption) (BT.cs_length _ _) (BT.cs_length _ _) rfl ?_ | refine JL.store_box 0 ty92 (.tmp rfl) rfl (.tmp rfl) (by first | rfl | assumption) rfl rfl rfl rfl ?_ | refine JL.store_box 0 ty92 (.tmp rfl) rfl (.tmp rfl) (by first | rfl | assumption) (BT.cs_length _ _) rfl rfl rfl ?_
              refine JL.q rfl rfl rfl (QW.assign .const) ?_
              refine JL.nil ?_
              refine thenQ.n ?_
              refine J.ret ?_
              exact ⟨_, selP [.k, .k] _, _, RetEv.two rfl (by first | exact REv.cell 0 ty92 rfl rfl rfl rfl (.refl _) | exact REv.cell 0 ty92 rfl rfl (take_at (BT.cs_length _ _) rfl) (BT.cs_length _ _) (.refl _)) (REv.tmp rfl (.refl _)), rfl, sel_perm [.k, .k] _, ⟨congrArg Res.ret (addAV_of (q := ⟨la, l⟩) (seq := seq) (l := m) (q' := ⟨seq, l ++ numIt seq 0 m⟩) (f := 0) (by unfold BT.add; rw [if_neg (by simp [hok]), if_neg (by (try simp only); omega), if_neg (by (try simp only); omega), if_neg (by (try simp only); omega), if_neg (by simp [hE]), if_neg (by (try simp only); omega)])).symm, rfl⟩⟩
end Go.Proofs.Ytkiankpmkglhcaa.J

/- Walks: binary search among items; an acknowledgement. -/
namespace Go.Proofs.Ytkiankpmkglhcaa.J
open Go Go.RowKit
set_option linter.unusedVariables false
set_option linter.unusedSimpArgs false
set_option maxRecDepth 10000
set_option maxHeartbeats 4000000
def ItT.dfl : ItT := ⟨0, ⟨[], .nil⟩⟩
theorem ItT.css_getD {fr : Bool} {l : List ItT} {i : Nat} (h : i < l.length) : (ItT.css fr l)[i]? = some (ItT.cs fr (l.getD i ItT.dfl)) := by
  rw [ItT.css_getE fr h]
  simp [List.getD, h]
theorem found_eq {l : List ItT} {k : Nat} {n : Int} : (decide (∃ x, l[k]? = some x ∧ x.id = n)) = (decide ((k : Int) < (l.length : Int)) && ((if (l.getD k ItT.dfl).id < n then (-1 : Int) else if n < (l.getD k ItT.dfl).id then 1 else 0) == 0)) := by
  by_cases hk : k < l.length
  · rw [Bool.eq_iff_iff]
    simp [hk, List.getD]
    constructor
    · rintro rfl; simp
    · intro h; split at h <;> first | omega | (split at h <;> omega)
  · rw [Bool.eq_iff_iff]
    simp [hk]
theorem fdiv2 {lo hi : Nat} : ((lo : Int) + (hi : Int)).fdiv (2 ^ (min (1 : Int).toNat IntKind.u64.bits)) = (((lo + hi) / 2 : Nat) : Int) := by
  rw [show (2 : Int) ^ (min (1 : Int).toNat IntKind.u64.bits) = 2 from rfl, Int.fdiv_eq_ediv_of_nonneg _ (by decide)]
  omega
theorem nanInt_ok (n : Int) : Fn Try.prog 126 [.c (.int .i64 n)] (.c (.bool false)) := by
  refine AC.of_J Try.func126 rfl Try.ntmps126 rfl fun w0 A0 => ?_
  refine J.seq ?_
  refine J.region_lit ?_
  refine JL.q rfl rfl rfl (QW.assign .const) ?_
  refine JL.nil ?_
  refine thenQ.n ?_
  refine J.seq ?_
  refine J.region_lit ?_
  refine JL.q rfl rfl rfl (QW.move (.tmp rfl)) ?_
  refine JL.q rfl rfl rfl (QW.move (.tmp rfl)) ?_
  refine JL.q rfl rfl rfl (QW.neq (.tmp rfl) (.tmp rfl)) ?_
  refine JL.q rfl rfl rfl (QW.assign (.tmp rfl)) ?_
  refine JL.nil ?_
  refine thenQ.n ?_
  refine J.ret ?_
  exact ⟨_, selP [] _, _, RetEv.one rfl (REv.tmp rfl (.refl _)), rfl, sel_perm [] _, ⟨ret_b (by simp), rfl⟩⟩
theorem cmpInt_ok (a b : Int) : Fn Try.prog 102 [.c (.int .i64 a), .c (.int .i64 b)] (.c (.int .i64 (if a < b then -1 else if b < a then 1 else 0))) := by
  refine AC.of_J Try.func102 rfl Try.ntmps102 rfl fun w0 A0 => ?_
  refine J.seq ?_
  refine J.region_lit ?_
  refine JL.q rfl rfl rfl (QW.assign .const) ?_
  refine JL.nil ?_
  refine thenQ.n ?_
  refine J.seq ?_
  refine J.region_lit ?_
  refine JL.q rfl rfl rfl (QW.move (.tmp rfl)) ?_
  refine JL.q rfl rfl rfl (QW.call gofn126 (.cons (.tmp rfl) .nil) (nanInt_ok _)) ?_
  refine JL.q rfl rfl rfl (QW.assign (.tmp rfl)) ?_
  refine JL.nil ?_
  refine thenQ.n ?_
  refine J.seq ?_
  refine J.region_lit ?_
  refine JL.q rfl rfl rfl (QW.move (.tmp rfl)) ?_
  refine JL.q rfl rfl rfl (QW.call gofn126 (.cons (.tmp rfl) .nil) (nanInt_ok _)) ?_
  refine JL.q rfl rfl rfl (QW.assign (.tmp rfl)) ?_
  refine JL.nil ?_
  refine thenQ.n ?_
  refine J.seq ?_
  refine J.seq ?_
  refine J.region_lit ?_
  refine JL.q rfl rfl rfl (QW.move (.tmp rfl)) ?_
  refine JL.nil ?_
  refine thenQ.n ?_
  refine J.cond (.tmp rfl) (fun c1 => absurd c1 (by simp)) (fun c1 => ?_)
  refine J.skip ?_
  refine thenQ.n ?_
  refine J.seq ?_
  refine J.seq ?_
  refine J.region_lit ?_
  refine JL.q rfl rfl rfl (QW.move (.tmp rfl)) ?_
  refine JL.nil ?_
  refine thenQ.n ?_
  refine J.cond (.tmp rfl) (fun c2 => absurd c2 (by simp)) (fun c2 => ?_)
  refine J.skip ?_
  refine thenQ.n ?_
  refine J.seq ?_
  refine J.seq ?_
  refine J.region_lit ?_
  refine JL.q rfl rfl rfl (QW.move (.tmp rfl)) ?_
  refine JL.q rfl rfl rfl (QW.move (.tmp rfl)) ?_
  refine JL.q rfl rfl rfl (QW.lss (.tmp rfl) (.tmp rfl)) ?_
  refine JL.nil ?_
  refine thenQ.n ?_
  refine J.cond (.tmp rfl) (fun c3 => ?_) (fun c3 => ?_)
  · skip
    simp at c3
    refine J.seq ?_
    refine J.region_lit ?_
    refine JL.q rfl rfl rfl (QW.assign .const) ?_
    refine JL.nil ?_
    refine thenQ.n ?_
    refine J.ret ?_
    refine thenQ.r ?_
    exact ⟨_, selP [] _, _, RetEv.one rfl (REv.tmp rfl (.refl _)), rfl, sel_perm [] _, ⟨by rw [if_pos c3], rfl⟩⟩
  · skip
    simp at c3
    refine J.skip ?_
    refine thenQ.n ?_
    refine J.seq ?_
    refine J.seq ?_
    refine J.region_lit ?_
    refine JL.q rfl rfl rfl (QW.move (.tmp rfl)) ?_
    refine JL.q rfl rfl rfl (QW.move (.tmp rfl)) ?_
    refine JL.q rfl rfl rfl (QW.gtr (.tmp rfl) (.tmp rfl)) ?_
    refine JL.nil ?_
    refine thenQ.n ?_
    refine J.cond (.tmp rfl) (fun c4 => ?_) (fun c4 => ?_)
    · skip
      simp at c4
      refine J.seq ?_
      refine J.region_lit ?_
      refine JL.q rfl rfl rfl (QW.assign .const) ?_
      refine JL.nil ?_
      refine thenQ.n ?_
      refine J.ret ?_
      refine thenQ.r ?_
      exact ⟨_, selP [] _, _, RetEv.one rfl (REv.tmp rfl (.refl _)), rfl, sel_perm [] _, ⟨by rw [if_neg (by omega), if_pos (by omega)], rfl⟩⟩
    · skip
      simp at c4
      refine J.skip ?_
      refine thenQ.n ?_
      refine J.seq ?_
      refine J.region_lit ?_
      refine JL.q rfl rfl rfl (QW.assign .const) ?_
      refine JL.nil ?_
      refine thenQ.n ?_
      refine J.ret ?_
      exact ⟨_, selP [] _, _, RetEv.one rfl (REv.tmp rfl (.refl _)), rfl, sel_perm [] _, ⟨by rw [if_neg (by omega), if_neg (by omega)], rfl⟩⟩
theorem ackCmp_ok {fr : Bool} (e : ItT) (n : Int) : Fn Try.prog 101 [.agg (e.cs fr), .c (.int .i64 n)] (.c (.int .i64 (if e.id < n then -1 else if n < e.id then 1 else 0))) := by
  refine AC.of_J Try.func101 rfl Try.ntmps101 rfl fun w0 A0 => ?_
  refine J.seq ?_
  refine J.region_lit ?_
  refine JL.box_agg (.tmp rfl) rfl fun b2 => ?_
  refine JL.q rfl rfl rfl (QW.assign .const) ?_
  refine JL.nil ?_
  refine thenQ.n ?_
  refine J.seq ?_
  refine J.region_lit ?_
  refine JL.q rfl rfl rfl (QW.field_ptr fo116_0 (.tmp rfl) rfl) ?_
  refine JL.q rfl rfl rfl (QW.load_box1 0 ty3 (.tmp rfl) rfl rfl) ?_
  refine JL.q rfl rfl rfl (QW.move (.tmp rfl)) ?_
  refine JL.q rfl rfl rfl (QW.call gofn102 (.cons (.tmp rfl) (.cons (.tmp rfl) .nil)) (cmpInt_ok _ _)) ?_
  refine JL.q rfl rfl rfl (QW.assign (.tmp rfl)) ?_
  refine JL.nil ?_
  refine thenQ.n ?_
  refine J.ret ?_
  exact ⟨_, selP [.k] _, _, RetEv.one rfl (REv.tmp rfl (.refl _)), rfl, sel_perm [.k] _, ⟨rfl, rfl⟩⟩
theorem bsf_ok {fr c : Bool} {l : List ItT} {n : Int} {k : Nat} (hl : l.length ≤ 1000) (hk : k ≤ l.length) (h1 : ∀ i (h : i < l.length), i < k → l[i].id < n) (h2 : ∀ i (h : i < l.length), k ≤ i → n ≤ l[i].id) : Fn Try.prog 100 [.sl fr c eIt (ItT.css fr l), .c (.int .i64 n), .c (.func (.func 101) #[] #[])] (.tup [.c (.int .i64 (k : Int)), .c (.bool (decide (∃ x, l[k]? = some x ∧ x.id = n)))]) := by
  refine AC.of_J Try.func100 rfl Try.ntmps100 rfl fun w0 A0 => ?_
  refine J.seq ?_
  refine J.region_lit ?_
  refine JL.q rfl rfl rfl (QW.assign .const) ?_
  refine JL.q rfl rfl rfl (QW.assign .const) ?_
  refine JL.nil ?_
  refine thenQ.n ?_
  refine J.seq ?_
  refine J.region_lit ?_
  refine JL.q rfl rfl rfl (QW.move (.tmp rfl)) ?_
  refine JL.q rfl rfl rfl (by first | exact QW.len_slE sl88 (.tmp rfl) (ItT.css_length _ _) | exact QW.len_slE sl88 (.tmp rfl) (EvT.css_length _ _) | exact QW.len_sl sl88 (.tmp rfl) | exact QW.len_nil sl88 (.tmp rfl)) ?_
  refine JL.q rfl rfl rfl (QW.assign (.tmp rfl)) ?_
  refine JL.nil ?_
  refine thenQ.n ?_
  refine J.seq ?_
  refine J.region_lit ?_
  refine JL.q rfl rfl rfl (QW.move (.tmp rfl)) ?_
  refine JL.q rfl rfl rfl (QW.assign .const) ?_
  refine JL.q rfl rfl rfl (QW.assign (.tmp rfl)) ?_
  refine JL.nil ?_
  refine thenQ.n ?_
  refine J.seq ?_
  refine J.block ?_
  refine J.loopK (ι := Nat × Nat) [0, 1, 2, 6, 7, 8] (fun ⟨lo, hi⟩ => [(9, .c (.int .i64 (lo : Int))), (10, .c (.int .i64 (hi : Int)))]) (fun _ oo => oo) (fun ⟨lo, hi⟩ => lo ≤ k ∧ k ≤ hi ∧ hi ≤ l.length) (fun ⟨lo, hi⟩ => hi - lo) ⟨0, l.length⟩ (⟨Nat.zero_le _, hk, Nat.le_refl _⟩) (Wk.re (.cons rfl (.refl _) (.cons rfl (.refl _) (.cons rfl (.refl _) (.cons rfl (.refl _) (.cons rfl (.refl _) (.cons rfl (.refl _) (.cons rfl (.refl _) (.cons rfl (.refl _) .nil)))))))) (Reown.refl _) (fun _ h => by first | exact h | simp [h])) ?_
  intro ⟨lo, hi⟩ ⟨ha, hb, hc⟩
  refine J.conv (by (try simp only [stepsO, List.map_cons, List.map_nil, valO, nthO, curO, mrg, List.reverse_cons, List.reverse_nil, List.nil_append, List.cons_append, List.append_nil, List.getElem?_cons_zero, List.getElem?_cons_succ, Option.map_some, Option.getD_some, List.set_cons_zero, List.set_cons_succ, AV.cellsOf, splice_zero, splice_succ, Nat.zero_add, Nat.reduceAdd]); rfl) ?_
  refine J.seq ?_
  refine J.seq ?_
  refine J.region_lit ?_
  refine JL.q rfl rfl rfl (QW.move (.tmp rfl)) ?_
  refine JL.q rfl rfl rfl (QW.move (.tmp rfl)) ?_
  refine JL.q rfl rfl rfl (QW.lss (.tmp rfl) (.tmp rfl)) ?_
  refine JL.nil ?_
  refine thenQ.n ?_
  refine J.cond (.tmp rfl) (fun c1 => ?_) (fun c1 => ?_)
  · skip
    have hlt : lo < hi := by simpa using c1
    refine J.skip ?_
    refine thenQ.n ?_
    refine J.block ?_
    refine J.seq ?_
    refine J.region_lit ?_
    refine JL.q rfl rfl rfl (QW.move (.tmp rfl)) ?_
    refine JL.q rfl rfl rfl (QW.move (.tmp rfl)) ?_
    refine JL.q rfl rfl rfl (QW.add (.tmp rfl) (.tmp rfl) (by first | exact w64n (by first | rfl | omega | (simp; done)) (by omega) | exact w64 (by omega) | rfl)) ?_
    refine JL.q rfl rfl rfl (QW.conv_int us3 iu170 (.tmp rfl) (by first | exact wu64 (by omega) | rfl)) ?_
    refine JL.q rfl rfl rfl (QW.shr (.tmp rfl) .const (by decide) fdiv2) ?_
    refine JL.q rfl rfl rfl (QW.conv_int us170 iu3 (.tmp rfl) (by first | exact w64n (by first | rfl | omega | (simp; done)) (by omega) | exact w64 (by omega) | rfl)) ?_
    refine JL.q rfl rfl rfl (QW.assign (.tmp rfl)) ?_
    refine JL.nil ?_
    refine thenQ.n ?_
    refine J.seq ?_
    refine J.region_lit ?_
    refine JL.q rfl rfl rfl (QW.move (.tmp rfl)) ?_
    refine JL.q rfl rfl rfl (QW.move (.tmp rfl)) ?_
    refine JL.q rfl rfl rfl (QW.move (.tmp rfl)) ?_
    refine JL.q rfl rfl rfl (QW.index_sl sl88 ty116 rfl (.tmp rfl) (.tmp rfl) (by first | rfl | omega | (simp; done)) (by exact ItT.css_getE (l := l) _ (i := (lo + hi) / 2) (by omega))) ?_
    refine JL.q rfl rfl rfl (by first | exact QW.load_ref ty116 (.tmp rfl) rfl rfl | exact QW.load_ref ty116 (.tmp rfl) (take_at0 (ItT.cs_length _ _) rfl) (ItT.cs_length _ _)) ?_
    refine JL.q rfl rfl rfl (QW.move (.tmp rfl)) ?_
    refine JL.q rfl rfl rfl (QW.callV gofn101 (.tmp rfl) (.cons (.tmp rfl) (.cons (.tmp rfl) .nil)) rfl (ackCmp_ok _ _)) ?_
    refine JL.q rfl rfl rfl (QW.lss (.tmp rfl) .const) ?_
    refine JL.nil ?_
    refine thenQ.n ?_
    refine J.cond (.tmp rfl) (fun c2 => ?_) (fun c2 => ?_)
    · skip
      have hm : (l[(lo + hi) / 2]'(by omega)).id < n := by (simp at c2; split at c2 <;> first | assumption | omega | (split at c2 <;> omega))
      refine J.region_lit ?_
      refine JL.q rfl rfl rfl (QW.move (.tmp rfl)) ?_
      refine JL.q rfl rfl rfl (QW.add (.tmp rfl) .const (by first | exact w64n (by first | rfl | omega | (simp; done)) (by omega) | exact w64 (by omega) | rfl)) ?_
      refine JL.q rfl rfl rfl (QW.assign (.tmp rfl)) ?_
      refine JL.nil ?_
      refine blkQ.n ?_
      refine thenQ.n ?_
      exact ⟨⟨(lo + hi) / 2 + 1, hi⟩, ⟨Nat.lt_of_not_le fun h => absurd (h2 _ (by omega) h) (by omega), hb, hc⟩, by show hi - ((lo + hi) / 2 + 1) < hi - lo; omega, Wk.re (.cons rfl (.refl _) (.cons rfl (.refl _) (.cons rfl (.refl _) (.cons rfl (.refl _) (.cons rfl (.refl _) (.cons rfl (.refl _) (.cons rfl (.refl _) (.cons rfl (.refl _) .nil)))))))) (Reown.refl _) (fun _ h => by first | exact h | simp [h])⟩
    · skip
      have hm : n ≤ (l[(lo + hi) / 2]'(by omega)).id := by (simp at c2; split at c2 <;> first | omega | (split at c2 <;> omega))
      refine J.region_lit ?_
      refine JL.q rfl rfl rfl (QW.move (.tmp rfl)) ?_
      refine JL.q rfl rfl rfl (QW.assign (.tmp rfl)) ?_
      refine JL.nil ?_
      refine blkQ.n ?_
      refine thenQ.n ?_
      exact ⟨⟨lo, (lo + hi) / 2⟩, ⟨ha, Nat.le_of_not_lt fun h => absurd (h1 _ (by omega) h) (by omega), by omega⟩, by show (lo + hi) / 2 - lo < hi - lo; omega, Wk.re (.cons rfl (.refl _) (.cons rfl (.refl _) (.cons rfl (.refl _) (.cons rfl (.refl _) (.cons rfl (.refl _) (.cons rfl (.refl _) (.cons rfl (.refl _) (.cons rfl (.refl _) .nil)))))))) (Reown.refl _) (fun _ h => by first | exact h | simp [h])⟩
  · skip
    have hge : hi ≤ lo := by simpa using c1
    refine J.exit ?_
    refine thenQ.x ?_
    refine thenQ.x ?_
    refine blkQ.hit ?_
    refine thenQ.n ?_
    refine J.seq ?_
    refine J.region_lit ?_
    refine JL.q rfl rfl rfl (QW.move (.tmp rfl)) ?_
    refine JL.q rfl rfl rfl (QW.move (.tmp rfl)) ?_
    refine JL.q rfl rfl rfl (QW.move (.tmp rfl)) ?_
    refine JL.q rfl rfl rfl (QW.lss (.tmp rfl) (.tmp rfl)) ?_
    refine JL.q rfl rfl rfl (QW.move (.tmp rfl)) ?_
    refine JL.g rfl rfl rfl rfl rfl (fun hg => (QW.move (.tmp rfl))) ?_
    refine JL.g rfl rfl rfl rfl rfl (fun hg => (QW.move (.tmp rfl))) ?_
    refine JL.g rfl rfl rfl rfl rfl (fun hg => (QW.move (.tmp rfl))) ?_
    refine JL.g rfl rfl rfl rfl rfl (fun hg => (QW.index_sl sl88 ty116 rfl (.when rfl hg) (.when rfl hg) (by first | rfl | omega | (simp; done)) (by exact ItT.css_getD (by simp [ItT.css_length] at hg; omega)))) ?_
    refine JL.g rfl rfl rfl rfl rfl (fun hg => (by first | exact QW.load_ref ty116 (.when rfl hg) rfl rfl | exact QW.load_ref ty116 (.when rfl hg) (take_at0 (ItT.cs_length _ _) rfl) (ItT.cs_length _ _))) ?_
    refine JL.g rfl rfl rfl rfl rfl (fun hg => (QW.move (.tmp rfl))) ?_
    refine JL.g rfl rfl rfl rfl rfl (fun hg => (QW.callV gofn101 (.when rfl hg) (.cons (.when rfl hg) (.cons (.when rfl hg) .nil)) rfl (ackCmp_ok _ _))) ?_
    refine JL.g rfl rfl rfl rfl rfl (fun hg => (QW.eql (.when rfl hg) .const)) ?_
    refine JL.q rfl rfl rfl (QW.pick_and (.tmp rfl) (.tmp rfl)) ?_
    refine JL.q rfl rfl rfl (QW.assign (.tmp rfl)) ?_
    refine JL.q rfl rfl rfl (QW.assign (.tmp rfl)) ?_
    refine JL.nil ?_
    refine thenQ.n ?_
    refine J.ret ?_
    obtain rfl : lo = k := by omega
    exact ⟨_, selP [] _, _, RetEv.two rfl (REv.tmp rfl (.refl _)) (REv.tmp rfl (.refl _)), rfl, sel_perm [] _, ⟨by rw [found_eq], rfl⟩⟩
theorem idsOk_all {la : Int} : ∀ {l : List ItT} {p : Int}, idsOk la p l = true → List.Pairwise (fun a b => a.id < b.id) l ∧ (∀ x ∈ l, p < x.id ∧ x.id < 32 * (la + 1) ∧ evOk x.ev = true)
  | [], p, _ => ⟨.nil, fun x h => by cases h⟩
  | x :: r, p, h => by
    simp only [idsOk, Bool.and_eq_true, decide_eq_true_eq] at h
    obtain ⟨⟨⟨h1, h2⟩, h3⟩, h4⟩ := h
    obtain ⟨g1, g2⟩ := idsOk_all h4
    refine ⟨List.pairwise_cons.2 ⟨fun y hy => (g2 y hy).1, g1⟩, fun y hy => ?_⟩
    rcases List.mem_cons.1 hy with rfl | hy
    · exact ⟨h1, h2, h3⟩
    · have := g2 y hy
      exact ⟨by omega, this.2⟩
theorem low_ix {n : Int} : ∀ {l : List ItT}, List.Pairwise (fun a b => a.id < b.id) l → ∃ k, k ≤ l.length ∧ (∀ i (h : i < l.length), i < k → l[i].id < n) ∧ (∀ i (h : i < l.length), k ≤ i → n ≤ l[i].id)
  | [], _ => ⟨0, Nat.le_refl _, fun i h => by simp at h, fun i h => by simp at h⟩
  | x :: r, hp => by
    obtain ⟨hx, hr⟩ := List.pairwise_cons.1 hp
    by_cases h : x.id < n
    · obtain ⟨k, h1, h2, h3⟩ := low_ix (n := n) hr
      refine ⟨k + 1, by simpa using h1, fun i hi hik => ?_, fun i hi hik => ?_⟩
      · cases i with
        | zero => simpa using h
        | succ i => simpa using h2 i (by simpa using hi) (by omega)
      · cases i with
        | zero => omega
        | succ i => simpa using h3 i (by simpa using hi) (by omega)
    · refine ⟨0, Nat.zero_le _, fun i _ hi => absurd hi (Nat.not_lt_zero _), fun i hi _ => ?_⟩
      cases i with
      | zero => simp; omega
      | succ i =>
        have := hx _ (List.getElem_mem (l := r) (n := i) (by simpa using hi))
        simp; omega
theorem filter_all {n : Int} {l : List ItT} (h : ∀ x ∈ l, x.id ≠ n) : l.filter (fun x => decide (x.id ≠ n)) = l ∧ (l.any fun x => decide (x.id = n)) = false := by
  refine ⟨List.filter_eq_self.2 fun x hx => by simpa using h x hx, ?_⟩
  rw [Bool.eq_false_iff]
  intro hh
  obtain ⟨x, hx, hx2⟩ := List.any_eq_true.1 hh
  exact h x hx (by simpa using hx2)
theorem ack_found {n : Int} {l : List ItT} {k : Nat} (hp : List.Pairwise (fun a b => a.id < b.id) l) (hk : k < l.length) (he : l[k].id = n) : l.filter (fun x => decide (x.id ≠ n)) = l.take k ++ l.drop (k + 1) ∧ (l.any fun x => decide (x.id = n)) = true := by
  have hs : l = l.take k ++ l[k] :: l.drop (k + 1) := by rw [← List.drop_eq_getElem_cons hk, List.take_append_drop]
  have hp2 := hp
  rw [hs] at hp2
  obtain ⟨_, h2, h3⟩ := List.pairwise_append.1 hp2
  obtain ⟨h4, _⟩ := List.pairwise_cons.1 h2
  refine ⟨?_, List.any_eq_true.2 ⟨l[k], List.getElem_mem hk, by simpa using he⟩⟩
  conv => lhs; rw [hs]
  rw [List.filter_append, List.filter_cons, if_neg (by simpa using he)]
  rw [(filter_all (n := n) (l := l.take k) fun x hx => by have := h3 x hx l[k] (List.mem_cons_self); omega).1, (filter_all (n := n) (l := l.drop (k + 1)) fun x hx => by have := h4 x hx; omega).1]
theorem ack_none {n : Int} {l : List ItT} {k : Nat} (h1 : ∀ i (h : i < l.length), i < k → l[i].id < n) (h2 : ∀ i (h : i < l.length), k ≤ i → n ≤ l[i].id) (hp : List.Pairwise (fun a b => a.id < b.id) l) (hn : ¬ ∃ x, l[k]? = some x ∧ x.id = n) : l.filter (fun x => decide (x.id ≠ n)) = l ∧ (l.any fun x => decide (x.id = n)) = false := by
  refine filter_all fun x hx he => ?_
  obtain ⟨i, hi, rfl⟩ := List.getElem_of_mem hx
  rcases Nat.lt_trichotomy i k with h | h | h
  · have := h1 i hi h; omega
  · subst h; exact hn ⟨_, List.getElem?_eq_getElem hi, he⟩
  · have hk : k < l.length := by omega
    have g1 := h2 k hk (Nat.le_refl _)
    have g2 := List.pairwise_iff_getElem.1 hp k i hk hi h
    omega
theorem back_ok {fr : Bool} {q : BT} {ys : List AV} (hq : Bc fr q ys) (id : Int) (hw : q.wf) : Fn Try.prog 56 [.agg ys, .c (.int .i64 id)] (ackAV q id) := by
  obtain ⟨la, l⟩ := q
  subst hq
  obtain ⟨hl1, hit⟩ := hw
  have hw : (BT.mk la l).wf := ⟨hl1, hit⟩
  simp only at hl1 hit
  have hlen := hit.len
  refine AC.of_J Try.func56 rfl Try.ntmps56 rfl fun w0 A0 => ?_
  refine J.seq ?_
  refine J.region_lit ?_
  refine JL.box_agg (.tmp rfl) rfl fun b2 => ?_
  refine JL.alloc z92 rfl rfl fun b4 => ?_
  refine JL.q rfl rfl rfl (QW.assign .const) ?_
  refine JL.q rfl rfl rfl (QW.assign .const) ?_
  refine JL.nil ?_
  refine thenQ.n ?_
  refine J.seq ?_
  refine J.seq ?_
  refine J.region_lit ?_
  refine JL.q rfl rfl rfl (by first | exact QW.load_box 1 ty92 (.tmp rfl) rfl rfl rfl | exact QW.load_box 1 ty92 (.tmp rfl) rfl (take_at (BT.cs_length _ _) rfl) (BT.cs_length _ _)) ?_
  refine JL.q rfl rfl rfl (QW.call gofn63 (.cons (.tmp rfl) .nil) (bcheck_ok Bc.mk hw)) ?_
  refine JL.q rfl rfl rfl (QW.assign (.tmp rfl)) ?_
  refine JL.nil ?_
  refine thenQ.n ?_
  refine J.seq ?_
  refine J.region_lit ?_
  refine JL.q rfl rfl rfl (QW.move (.tmp rfl)) ?_
  refine JL.q rfl rfl rfl (QW.neq (.tmp rfl) .const) ?_
  refine JL.nil ?_
  refine thenQ.n ?_
  refine J.cond (.tmp rfl) (fun c1 => ?_) (fun c1 => ?_)
  · skip
    simp at c1
    obtain ⟨hno, he9⟩ := BT.err_no c1
    refine J.seq ?_
    refine J.region_lit ?_
    refine JL.q rfl rfl rfl (QW.build (idx := []) pl92 z92 rfl .nil rfl rfl rfl rfl) ?_
    refine JL.q rfl rfl rfl (QW.move (.tmp rfl)) ?_
    first | refine JL.store_boxF 0 ty92 (.tmp rfl) rfl (.tmp rfl) (by first | rfl | assumption) (rfl) (rfl) rfl ?_ | refine JL.store_boxF 0 ty92 (.tmp rfl) rfl (.tmp rfl) (by first | rfl | assumption) (rfl) (BT.cs_length _ _) rfl ?_ | refine JL.store_boxF 0 ty92 (.tmp rfl) rfl (.tmp rfl) (by first | rfl | assumption) (BT.cs_length _ _) (rfl) rfl ?_ | refine JL.store_boxF 0 ty92 (.tmp rfl) rfl (.tmp rfl) (by first | rfl | assumption) (BT.cs_length _ _) (BT.cs_length _ _) rfl ?_ | refine JL.store_box 0 ty92 (.tmp rfl) rfl (.tmp rfl) (by first | rfl | assumption) rfl rfl rfl rfl ?_ | refine JL.store_box 0 ty92 (.tmp rfl) rfl (.tmp rfl) (by first | rfl | assumption) (BT.cs_length _ _) rfl rfl rfl ?_
    refine JL.q rfl rfl rfl (QW.assign .const) ?_
    refine JL.q rfl rfl rfl (QW.assign (.tmp rfl)) ?_
    refine JL.nil ?_
    refine thenQ.n ?_
    refine J.ret ?_
    refine thenQ.r ?_
    exact ⟨_, selP [.k, .k] _, _, RetEv.three rfl (by first | exact REv.cell 0 ty92 rfl rfl rfl rfl (.aggL (.cons (.refl _) (.cons (.nil true false eIt) .nil))) | exact REv.cell 0 ty92 rfl rfl (take_at (BT.cs_length _ _) rfl) (BT.cs_length _ _) (.aggL (.cons (.refl _) (.cons (.nil true false eIt) .nil)))) (REv.tmp rfl (.refl _)) (REv.tmp rfl (.refl _)), rfl, sel_perm [.k, .k] _, ⟨congrArg Res.ret (ackAV_of (q := ⟨la, l⟩) (id := id) (q' := .nil) (b := false) (f := (BT.mk la l).err) (by simp [BT.ack, hno, he9])).symm, rfl⟩⟩
  · skip
    simp at c1
    have hok := BT.err_ok.1 c1
    obtain ⟨o1, o2, o3, o4⟩ := BT.ok_inv hok
    simp only at o1 o2 o3 o4
    obtain ⟨hpw, hal⟩ := idsOk_all o4
    refine J.skip ?_
    refine thenQ.n ?_
    refine J.seq ?_
    refine J.seq ?_
    refine J.region_lit ?_
    refine JL.q rfl rfl rfl (QW.move (.tmp rfl)) ?_
    refine JL.q rfl rfl rfl (QW.lss (.tmp rfl) .const) ?_
    refine JL.q rfl rfl rfl (QW.move (.tmp rfl)) ?_
    refine JL.g rfl rfl rfl rfl rfl (fun hg => (QW.move (.tmp rfl))) ?_
    refine JL.g rfl rfl rfl rfl rfl (fun hg => (QW.field_ptr fo92_0 (.tmp rfl) rfl)) ?_
    refine JL.g rfl rfl rfl rfl rfl (fun hg => (QW.load_box1 1 ty3 (.when rfl hg) rfl rfl)) ?_
    refine JL.g rfl rfl rfl rfl rfl (fun hg => (QW.add (.when rfl hg) .const (by first | exact w64n (by first | rfl | omega | (simp; done)) (by omega) | exact w64 (by omega) | rfl))) ?_
    refine JL.g rfl rfl rfl rfl rfl (fun hg => (QW.mul .const (.when rfl hg) (by first | exact w64n (by first | rfl | omega | (simp; done)) (by omega) | exact w64 (by omega) | rfl))) ?_
    refine JL.g rfl rfl rfl rfl rfl (fun hg => (QW.geq (.when rfl hg) (.when rfl hg))) ?_
    refine JL.q rfl rfl rfl (QW.pick_or (.tmp rfl) (.tmp rfl)) ?_
    refine JL.nil ?_
    refine thenQ.n ?_
    refine J.cond (.tmp rfl) (fun c2 => ?_) (fun c2 => ?_)
    · skip
      simp at c2
      refine J.seq ?_
      refine J.region_lit ?_
      refine JL.q rfl rfl rfl (QW.build (idx := []) pl92 z92 rfl .nil rfl rfl rfl rfl) ?_
      first | refine JL.store_boxF 0 ty92 (.tmp rfl) rfl (.tmp rfl) (by first | rfl | assumption) (rfl) (rfl) rfl ?_ | refine JL.store_boxF 0 ty92 (.tmp rfl) rfl (.tmp rfl) (by first | rfl | assumption) (rfl) (BT.cs_length _ _) rfl ?_ | refine JL.store_boxF 0 ty92 (.tmp rfl) rfl (.tmp rfl) (by first | rfl | assumption) (BT.cs_length _ _) (rfl) rfl ?_ | refine JL.store_boxF 0 ty92 (.tmp rfl) rfl (.tmp rfl) (by first | rfl | assumption) (BT.cs_length _ _) (BT.cs_length _ _) rfl ?_ | refine JL.store_box 0 ty92 (.tmp rfl) rfl (.tmp rfl) (by first | rfl | assumption) rfl rfl rfl rfl ?_ | refine JL.store_box 0 ty92 (.tmp rfl) rfl (.tmp rfl) (by first | rfl | assumption) (BT.cs_length _ _) rfl rfl rfl ?_
      refine JL.q rfl rfl rfl (QW.assign .const) ?_
      refine JL.q rfl rfl rfl (QW.assign .const) ?_
      refine JL.nil ?_
      refine thenQ.n ?_
      refine J.ret ?_
      refine thenQ.r ?_
      exact ⟨_, selP [.k, .k] _, _, RetEv.three rfl (by first | exact REv.cell 0 ty92 rfl rfl rfl rfl (.aggL (.cons (.refl _) (.cons (.nil true false eIt) .nil))) | exact REv.cell 0 ty92 rfl rfl (take_at (BT.cs_length _ _) rfl) (BT.cs_length _ _) (.aggL (.cons (.refl _) (.cons (.nil true false eIt) .nil)))) (REv.tmp rfl (.refl _)) (REv.tmp rfl (.refl _)), rfl, sel_perm [.k, .k] _, ⟨congrArg Res.ret (ackAV_of (q := ⟨la, l⟩) (id := id) (q' := .nil) (b := false) (f := 4) (by unfold BT.ack; rw [if_neg (by simp [hok]), if_pos (by (try simp only); omega)])).symm, rfl⟩⟩
    · skip
      simp at c2
      refine J.skip ?_
      refine thenQ.n ?_
      refine J.seq ?_
      refine J.region_lit ?_
      refine JL.q rfl rfl rfl (by first | exact QW.load_box 1 ty92 (.tmp rfl) rfl rfl rfl | exact QW.load_box 1 ty92 (.tmp rfl) rfl (take_at (BT.cs_length _ _) rfl) (BT.cs_length _ _)) ?_
      refine JL.callRF [] gofn97 rfl Lent.nil (fun _ => (.cons (.tmp rfl) .nil)) (bclone_own Bc.mk hw) (.inl rfl) fun x28 o28 h28 => ?_
      obtain ⟨v28, rfl, hs28, rfl⟩ := h28
      first | refine JL.store_boxF 1 ty92 (.tmp rfl) rfl (.tmp rfl) (by first | rfl | assumption) (rfl) (rfl) rfl ?_ | refine JL.store_boxF 1 ty92 (.tmp rfl) rfl (.tmp rfl) (by first | rfl | assumption) (rfl) (BT.cs_length _ _) rfl ?_ | refine JL.store_boxF 1 ty92 (.tmp rfl) rfl (.tmp rfl) (by first | rfl | assumption) (BT.cs_length _ _) (rfl) rfl ?_ | refine JL.store_boxF 1 ty92 (.tmp rfl) rfl (.tmp rfl) (by first | rfl | assumption) (BT.cs_length _ _) (BT.cs_length _ _) rfl ?_ | refine JL.store_box 1 ty92 (.tmp rfl) rfl (.tmp rfl) (by first | rfl | assumption) rfl rfl rfl rfl ?_ | refine JL.store_box 1 ty92 (.tmp rfl) rfl (.tmp rfl) (by first | rfl | assumption) (BT.cs_length _ _) rfl rfl rfl ?_
      refine JL.nil ?_
      refine thenQ.n ?_
      refine J.seq ?_
      obtain ⟨k, hk, h1, h2⟩ := low_ix (n := id) hpw
      refine J.region_lit ?_
      refine JL.q rfl rfl rfl (QW.field_ptr fo92_1 (.tmp rfl) rfl) ?_
      refine JL.q rfl rfl rfl (QW.load_box1 1 ty88 (.tmp rfl) rfl rfl) ?_
      refine JL.q rfl rfl rfl (QW.move (.tmp rfl)) ?_
      refine JL.q rfl rfl rfl (QW.callLF [.k, .k, .l] gofn100 (Lent.cons (Lent.arr (by rw [ItT.css_length]; exact hit.1)) Lent.nil) rfl rfl (fun _ => (.cons (Ev.le (.tmp rfl) (.fact (.head _) (.slL (fun h => h) (by rw [ItT.css_length, ItT.css_length]) (ItT.css_sz false l) (ItT.css_le true false (fun h => by cases h) l)))) (.cons (.tmp rfl) (.cons .func .nil)))) (bsf_ok (fr := false) (c := false) (by omega) hk h1 h2) (.tup (FlL.cons (.c _) (FlL.cons (.c _) .nil)))) ?_
      refine JL.q rfl rfl rfl (QW.move (.tmp rfl)) ?_
      refine JL.q rfl rfl rfl (QW.extract (.tmp rfl) rfl) ?_
      refine JL.q rfl rfl rfl (QW.extract (.tmp rfl) rfl) ?_
      refine JL.q rfl rfl rfl (QW.assign (.tmp rfl)) ?_
      refine JL.q rfl rfl rfl (QW.assign (.tmp rfl)) ?_
      refine JL.nil ?_
      refine thenQ.n ?_
      refine J.seq ?_
      refine J.seq ?_
      refine J.region_lit ?_
      refine JL.q rfl rfl rfl (QW.move (.tmp rfl)) ?_
      refine JL.nil ?_
      refine thenQ.n ?_
      refine J.cond (.tmp rfl) (fun c3 => ?_) (fun c3 => ?_)
      · skip
        obtain ⟨x, hx1, hx2⟩ := of_decide_eq_true c3
        obtain ⟨hkl, hx3⟩ := List.getElem?_eq_some_iff.1 hx1
        subst hx3
        obtain ⟨f1, f2⟩ := ack_found hpw hkl hx2
        refine J.region_lit ?_
        refine JL.q rfl rfl rfl (QW.field_ptr fo92_1 (.tmp rfl) rfl) ?_
        refine JL.q rfl rfl rfl (QW.load_box1 1 ty88 (.tmp rfl) rfl rfl) ?_
        refine JL.q rfl rfl rfl (QW.move (.tmp rfl)) ?_
        refine JL.q rfl rfl rfl (QW.move (.tmp rfl)) ?_
        refine JL.q rfl rfl rfl (QW.add (.tmp rfl) .const (by first | exact w64n (by first | rfl | omega | (simp; done)) (by omega) | exact w64 (by omega) | rfl)) ?_
        refine JL.callRF [.k, .k, .p] gofn103 rfl Lent.nil (fun _ => (.cons (.tmp rfl) (.cons (.tmp rfl) (.cons (.tmp rfl) .nil)))) (delIt_ok (by rw [ItT.css_length]; exact hkl) (by rw [ItT.css_length]; exact hit.1)) (.inl rfl) fun x42 o42 h42 => ?_
        obtain ⟨v42, rfl, hs42, rfl⟩ := h42
        refine JL.q rfl rfl rfl (QW.field_ptr fo92_1 (.tmp rfl) rfl) ?_
        refine JL.store_box 1 ty88 (.tmp rfl) rfl (.tmp rfl) (by first | rfl | assumption) rfl rfl rfl rfl ?_
        refine JL.nil ?_
        refine thenQ.n ?_
        refine J.seq ?_
        refine J.closeArr 2 rfl (by first | (rw [ItT.css_length]; exact hit.1) | (rw [List.length_append, List.length_take, List.length_drop, ItT.css_length]; have := hit.1; show _ * 104 ≤ _; unfold reach at *; omega)) rfl (fun _ h => by cases h) ?_
        refine J.region_lit ?_
        refine JL.q rfl rfl rfl (by first | exact QW.load_box 1 ty92 (.tmp rfl) rfl rfl rfl | exact QW.load_box 1 ty92 (.tmp rfl) rfl (take_at (BT.cs_length _ _) rfl) (BT.cs_length _ _)) ?_
        refine JL.q rfl rfl rfl (QW.move (.tmp rfl)) ?_
        first | refine JL.store_boxF 0 ty92 (.tmp rfl) rfl (.tmp rfl) (by first | rfl | assumption) (rfl) (rfl) rfl ?_ | refine JL.store_boxF 0 ty92 (.tmp rfl) rfl (.tmp rfl) (by first | rfl | assumption) (rfl) (BT.cs_length _ _) rfl ?_ | refine JL.store_boxF 0 ty92 (.tmp rfl) rfl (.tmp rfl) (by first | rfl | assumption) (BT.cs_length _ _) (rfl) rfl ?_ | refine JL.store_boxF 0 ty92 (.tmp rfl) rfl (.tmp rfl) (by first | rfl | assumption) (BT.cs_length _ _) (BT.cs_length _ _) rfl ?_ | refine JL.store_box 0 ty92 (.tmp rfl) rfl (.tmp rfl) (by first | rfl | assumption) rfl rfl rfl rfl ?_ | refine JL.store_box 0 ty92 (.tmp rfl) rfl (.tmp rfl) (by first | rfl | assumption) (BT.cs_length _ _) rfl rfl rfl ?_
        refine JL.q rfl rfl rfl (QW.assign (.tmp rfl)) ?_
        refine JL.q rfl rfl rfl (QW.assign .const) ?_
        refine JL.nil ?_
        refine thenQ.n ?_
        refine J.ret ?_
        exact ⟨_, selP [.k, .k] _, _, RetEv.three rfl (by first | exact REv.cell 0 ty92 rfl rfl rfl rfl (.aggL (.cons (.refl _) (.cons (.fact (.head _) (.refl _)) .nil))) | exact REv.cell 0 ty92 rfl rfl (take_at (BT.cs_length _ _) rfl) (BT.cs_length _ _) (.aggL (.cons (.refl _) (.cons (.fact (.head _) (.refl _)) .nil)))) (REv.tmp rfl (.refl _)) (REv.tmp rfl (.refl _)), rfl, sel_perm [.k, .k] _, ⟨congrArg Res.ret (by rw [ackAV_of (q := ⟨la, l⟩) (id := id) (q' := ⟨la, l.take k ++ l.drop (k + 1)⟩) (b := true) (f := 0) (by unfold BT.ack; rw [if_neg (by simp [hok]), if_neg (by (try simp only); omega), f1, f2])]; simp only [BT.av, BT.cs, ItT.css_append, ItT.css_take, ItT.css_drop, c3]; try rfl), rfl⟩⟩
      · skip
        have hnf := of_decide_eq_false c3
        obtain ⟨f1, f2⟩ := ack_none h1 h2 hpw hnf
        refine J.skip ?_
        refine thenQ.n ?_
        refine J.seq ?_
        refine J.closeArr 2 rfl (by first | (rw [ItT.css_length]; exact hit.1) | (rw [List.length_append, List.length_take, List.length_drop, ItT.css_length]; have := hit.1; show _ * 104 ≤ _; unfold reach at *; omega)) rfl (fun _ h => by cases h) ?_
        refine J.region_lit ?_
        refine JL.q rfl rfl rfl (by first | exact QW.load_box 1 ty92 (.tmp rfl) rfl rfl rfl | exact QW.load_box 1 ty92 (.tmp rfl) rfl (take_at (BT.cs_length _ _) rfl) (BT.cs_length _ _)) ?_
        refine JL.q rfl rfl rfl (QW.move (.tmp rfl)) ?_
        first | refine JL.store_boxF 0 ty92 (.tmp rfl) rfl (.tmp rfl) (by first | rfl | assumption) (rfl) (rfl) rfl ?_ | refine JL.store_boxF 0 ty92 (.tmp rfl) rfl (.tmp rfl) (by first | rfl | assumption) (rfl) (BT.cs_length _ _) rfl ?_ | refine JL.store_boxF 0 ty92 (.tmp rfl) rfl (.tmp rfl) (by first | rfl | assumption) (BT.cs_length _ _) (rfl) rfl ?_ | refine JL.store_boxF 0 ty92 (.tmp rfl) rfl (.tmp rfl) (by first | rfl | assumption) (BT.cs_length _ _) (BT.cs_length _ _) rfl ?_ | refine JL.store_box 0 ty92 (.tmp rfl) rfl (.tmp rfl) (by first | rfl | assumption) rfl rfl rfl rfl ?_ | refine JL.store_box 0 ty92 (.tmp rfl) rfl (.tmp rfl) (by first | rfl | assumption) (BT.cs_length _ _) rfl rfl rfl ?_
        refine JL.q rfl rfl rfl (QW.assign (.tmp rfl)) ?_
        refine JL.q rfl rfl rfl (QW.assign .const) ?_
        refine JL.nil ?_
        refine thenQ.n ?_
        refine J.ret ?_
        exact ⟨_, selP [.k, .k] _, _, RetEv.three rfl (by first | exact REv.cell 0 ty92 rfl rfl rfl rfl (.aggL (.cons (.refl _) (.cons (.fact (.head _) (.refl _)) .nil))) | exact REv.cell 0 ty92 rfl rfl (take_at (BT.cs_length _ _) rfl) (BT.cs_length _ _) (.aggL (.cons (.refl _) (.cons (.fact (.head _) (.refl _)) .nil)))) (REv.tmp rfl (.refl _)) (REv.tmp rfl (.refl _)), rfl, sel_perm [.k, .k] _, ⟨congrArg Res.ret (by rw [ackAV_of (q := ⟨la, l⟩) (id := id) (q' := ⟨la, l⟩) (b := false) (f := 0) (by unfold BT.ack; rw [if_neg (by simp [hok]), if_neg (by (try simp only); omega), f1, f2]), c3]; try rfl), rfl⟩⟩
end Go.Proofs.Ytkiankpmkglhcaa.J

/- Walks: the page's pushing and taking; a queue in memory of its own; two queues alike. -/
namespace Go.Proofs.Ytkiankpmkglhcaa.J
open Go Go.RowKit
set_option linter.unusedVariables false
set_option linter.unusedSimpArgs false
set_option maxRecDepth 10000
set_option maxHeartbeats 4000000
theorem EvT.wfs.one {e : EvT} (h : e.wf) : EvT.wfs [e] := ⟨by simp only [List.length_singleton]; decide, fun x hx => by simp only [List.mem_singleton] at hx; subst hx; exact h⟩
end Go.Proofs.Ytkiankpmkglhcaa.J

/- Walks: two queues alike; the page's example; QueueNew. -/
namespace Go.Proofs.Ytkiankpmkglhcaa.J
open Go Go.RowKit
set_option linter.unusedVariables false
set_option linter.unusedSimpArgs false
set_option maxRecDepth 10000
set_option maxHeartbeats 4000000
def QT.new (n : Int) : QT := if n < 1 ∨ 64 < n then .nil else ⟨n, 0, []⟩
def evA : EvT := ⟨[97], .nil⟩
def evB : EvT := ⟨[98], .nil⟩
theorem V.nil_wf : V.nil.wf := .mk (by decide) (by decide) (by decide) (by decide) (by decide) (fun _ h => by cases h) (fun _ h => by cases h)
theorem evA_wf : evA.wf := ⟨by decide, V.nil_wf⟩
theorem evB_wf : evB.wf := ⟨by decide, V.nil_wf⟩
theorem evAB_wf : EvT.wfs [evA, evB] := ⟨by decide, fun e h => by
  rcases List.mem_cons.1 h with rfl | h
  · exact evA_wf
  · rcases List.mem_cons.1 h with rfl | h
    · exact evB_wf
    · cases h⟩
end Go.Proofs.Ytkiankpmkglhcaa.J

/- Walks: the page's acknowledgement; the page's example; OutboxTells. -/
namespace Go.Proofs.Ytkiankpmkglhcaa.J
open Go Go.RowKit
set_option linter.unusedVariables false
set_option linter.unusedSimpArgs false
set_option maxRecDepth 10000
set_option maxHeartbeats 4000000
theorem bnew_ok : Fn Try.prog 67 [] BT.nil.av := by
  refine AC.of_J Try.func67 rfl Try.ntmps67 rfl fun w0 A0 => ?_
  refine J.seq ?_
  refine J.region_lit ?_
  refine JL.alloc z92 rfl rfl fun b0 => ?_
  refine JL.nil ?_
  refine thenQ.n ?_
  refine J.seq ?_
  refine J.region_lit ?_
  refine JL.q rfl rfl rfl (QW.build (idx := []) pl92 z92 rfl .nil rfl rfl rfl rfl) ?_
  first | refine JL.store_boxF 0 ty92 (.tmp rfl) rfl (.tmp rfl) (by first | rfl | assumption) (rfl) (rfl) rfl ?_ | refine JL.store_boxF 0 ty92 (.tmp rfl) rfl (.tmp rfl) (by first | rfl | assumption) (rfl) (BT.cs_length _ _) rfl ?_ | refine JL.store_boxF 0 ty92 (.tmp rfl) rfl (.tmp rfl) (by first | rfl | assumption) (BT.cs_length _ _) (rfl) rfl ?_ | refine JL.store_boxF 0 ty92 (.tmp rfl) rfl (.tmp rfl) (by first | rfl | assumption) (BT.cs_length _ _) (BT.cs_length _ _) rfl ?_ | refine JL.store_box 0 ty92 (.tmp rfl) rfl (.tmp rfl) (by first | rfl | assumption) rfl rfl rfl rfl ?_ | refine JL.store_box 0 ty92 (.tmp rfl) rfl (.tmp rfl) (by first | rfl | assumption) (BT.cs_length _ _) rfl rfl rfl ?_
  refine JL.nil ?_
  refine thenQ.n ?_
  refine J.ret ?_
  exact ⟨_, selP [.k] _, _, RetEv.one rfl (by first | exact REv.cell 0 ty92 rfl rfl rfl rfl (.aggL (.cons (.refl _) (.cons (.nil true false eIt) .nil))) | exact REv.cell 0 ty92 rfl rfl (take_at (BT.cs_length _ _) rfl) (BT.cs_length _ _) (.aggL (.cons (.refl _) (.cons (.nil true false eIt) .nil)))), rfl, sel_perm [.k] _, ⟨rfl, rfl⟩⟩
theorem BT.nil_wf : BT.nil.wf := ⟨by decide, ItT.wfs_nil⟩
theorem BT.add_wf1 {q : BT} {seq : Int} {m : List EvT} (hw : q.wf) (hm : EvT.wfs m) : (q.add seq m).1.wf := by
  unfold BT.add
  split
  · exact BT.nil_wf
  · rename_i hok
    obtain ⟨o1, o2, o3, o4⟩ := BT.ok_inv (q := q) (by simpa using hok)
    split
    · exact BT.nil_wf
    · split
      · exact BT.nil_wf
      · split
        · exact BT.nil_wf
        · split
          · exact BT.nil_wf
          · split
            · exact BT.nil_wf
            · obtain ⟨la, l⟩ := q
              exact add_wf hw hm (by simp only at *; omega) o3 (by omega)
theorem BT.ack_wf {q : BT} {id : Int} (hw : q.wf) : (q.ack id).1.wf := by
  unfold BT.ack
  split
  · exact BT.nil_wf
  · split
    · exact BT.nil_wf
    · exact ⟨hw.l1, ⟨Nat.le_trans (Nat.mul_le_mul_right _ (List.length_filter_le _ _)) hw.it.1, fun x hx => hw.it.2 x (List.mem_filter.1 hx).1⟩⟩
def itB (n : Int) (e : EvT) : ItT := ⟨n, e⟩
theorem oadd : addAV BT.nil 3 [evA, evB] = .tup [(BT.mk 3 [itB 96 evA, itB 97 evB]).av, .c (.int .i64 0)] := addAV_of (by decide)
theorem onext : nextAV ⟨3, [itB 96 evA, itB 97 evB]⟩ 9 = .tup [itsAV [itB 96 evA, itB 97 evB], .c (.int .i64 0)] := nextAV_of (by decide)
theorem oack : ackAV ⟨3, [itB 96 evA, itB 97 evB]⟩ 96 = .tup [(BT.mk 3 [itB 97 evB]).av, .c (.bool true), .c (.int .i64 0)] := ackAV_of (by decide)
theorem oit_wf : (BT.mk 3 [itB 96 evA, itB 97 evB]).wf := by
  have := BT.add_wf1 (seq := 3) BT.nil_wf evAB_wf
  rwa [show (BT.nil.add 3 [evA, evB]).1 = BT.mk 3 [itB 96 evA, itB 97 evB] by decide] at this
theorem ev2_le {F : List (Value × AV)} : LeL F [[.c (str [97]), .c (.int .i64 0), .c (.int .u64 0), .c (str []), .c (.slice none 0 0), .c (.slice none 0 0)], [.c (str [98]), .c (.int .i64 0), .c (.int .u64 0), .c (str []), .c (.slice none 0 0), .c (.slice none 0 0)]].flatten (EvT.css true [evA, evB]).flatten :=
  .cons (.refl _) (.cons (.refl _) (.cons (.refl _) (.cons (.refl _) (.cons (.nil true false _) (.cons (.nil true false _) (.cons (.refl _) (.cons (.refl _) (.cons (.refl _) (.cons (.refl _) (.cons (.nil true false _) (.cons (.nil true false _) .nil)))))))))))
theorem alive08_ok : Fn Try.prog 66 [] (.c (.bool true)) := by
  refine AC.of_J Try.func66 rfl Try.ntmps66 rfl fun w0 A0 => ?_
  refine J.seq ?_
  refine J.region_lit ?_
  refine JL.q rfl rfl rfl (QW.assign .const) ?_
  refine JL.nil ?_
  refine thenQ.n ?_
  refine J.seq ?_
  refine J.region_lit ?_
  refine JL.q rfl rfl rfl (QW.call gofn67 .nil (bnew_ok)) ?_
  refine JL.q rfl rfl rfl (QW.build (idx := [0]) pl114 z114 rfl (.cons .const .nil) rfl rfl rfl rfl) ?_
  refine JL.q rfl rfl rfl (QW.build (idx := [0]) pl114 z114 rfl (.cons .const .nil) rfl rfl rfl rfl) ?_
  refine JL.q rfl rfl rfl (QW.buildSlice (idx := [0, 1]) (xs := [[.c (str [97]), .c (.int .i64 0), .c (.int .u64 0), .c (str []), .c (.slice none 0 0), .c (.slice none 0 0)], [.c (str [98]), .c (.int .i64 0), .c (.int .u64 0), .c (str []), .c (.slice none 0 0), .c (.slice none 0 0)]]) sl91 el114 z114 rfl (.cons (.tmp rfl) (.cons (.tmp rfl) .nil)) rfl rfl rfl rfl rfl rfl rfl rfl rfl) ?_
  refine JL.q rfl rfl rfl (QW.call gofn54 (.cons (.tmp rfl) (.cons .const (.cons (Ev.le (.tmp rfl) (.slL (fun h => h) (by rfl) (EvT.css_sz true [evA, evB]) ev2_le)) .nil))) (oadd ▸ badd_ok (fr := true) (fr2 := true) (c2 := false) Bc.self 3 BT.nil_wf evAB_wf)) ?_
  refine JL.q rfl rfl rfl (QW.move (.tmp rfl)) ?_
  refine JL.q rfl rfl rfl (QW.extract (.tmp rfl) rfl) ?_
  refine JL.q rfl rfl rfl (QW.extract (.tmp rfl) rfl) ?_
  refine JL.alloc z92 rfl rfl fun b1 => ?_
  first | refine JL.store_boxF 0 ty92 (.tmp rfl) rfl (.tmp rfl) (by first | rfl | assumption) (rfl) (rfl) rfl ?_ | refine JL.store_boxF 0 ty92 (.tmp rfl) rfl (.tmp rfl) (by first | rfl | assumption) (rfl) (BT.cs_length _ _) rfl ?_ | refine JL.store_boxF 0 ty92 (.tmp rfl) rfl (.tmp rfl) (by first | rfl | assumption) (BT.cs_length _ _) (rfl) rfl ?_ | refine JL.store_boxF 0 ty92 (.tmp rfl) rfl (.tmp rfl) (by first | rfl | assumption) (BT.cs_length _ _) (BT.cs_length _ _) rfl ?_ | refine JL.store_box 0 ty92 (.tmp rfl) rfl (.tmp rfl) (by first | rfl | assumption) rfl rfl rfl rfl ?_ | refine JL.store_box 0 ty92 (.tmp rfl) rfl (.tmp rfl) (by first | rfl | assumption) (BT.cs_length _ _) rfl rfl rfl ?_
  refine JL.q rfl rfl rfl (QW.assign (.tmp rfl)) ?_
  refine JL.nil ?_
  refine thenQ.n ?_
  refine J.seq ?_
  refine J.region_lit ?_
  refine JL.q rfl rfl rfl (by first | exact QW.load_box 0 ty92 (.tmp rfl) rfl rfl rfl | exact QW.load_box 0 ty92 (.tmp rfl) rfl (take_at (BT.cs_length _ _) rfl) (BT.cs_length _ _)) ?_
  refine JL.q rfl rfl rfl (QW.call gofn58 (.cons (.tmp rfl) (.cons .const .nil)) (onext ▸ bnext_ok Bc.self 9 oit_wf)) ?_
  refine JL.q rfl rfl rfl (QW.move (.tmp rfl)) ?_
  refine JL.q rfl rfl rfl (QW.extract (.tmp rfl) rfl) ?_
  refine JL.q rfl rfl rfl (QW.extract (.tmp rfl) rfl) ?_
  refine JL.q rfl rfl rfl (QW.assign (.tmp rfl)) ?_
  refine JL.q rfl rfl rfl (QW.assign (.tmp rfl)) ?_
  refine JL.nil ?_
  refine thenQ.n ?_
  refine J.seq ?_
  refine J.region_lit ?_
  refine JL.q rfl rfl rfl (by first | exact QW.load_box 0 ty92 (.tmp rfl) rfl rfl rfl | exact QW.load_box 0 ty92 (.tmp rfl) rfl (take_at (BT.cs_length _ _) rfl) (BT.cs_length _ _)) ?_
  refine JL.q rfl rfl rfl (QW.call gofn56 (.cons (.tmp rfl) (.cons .const .nil)) (oack ▸ back_ok Bc.self 96 oit_wf)) ?_
  refine JL.q rfl rfl rfl (QW.move (.tmp rfl)) ?_
  refine JL.q rfl rfl rfl (QW.extract (.tmp rfl) rfl) ?_
  refine JL.q rfl rfl rfl (QW.extract (.tmp rfl) rfl) ?_
  refine JL.q rfl rfl rfl (QW.extract (.tmp rfl) rfl) ?_
  first | refine JL.store_boxF 0 ty92 (.tmp rfl) rfl (.tmp rfl) (by first | rfl | assumption) (rfl) (rfl) rfl ?_ | refine JL.store_boxF 0 ty92 (.tmp rfl) rfl (.tmp rfl) (by first | rfl | assumption) (rfl) (BT.cs_length _ _) rfl ?_ | refine JL.store_boxF 0 ty92 (.tmp rfl) rfl (.tmp rfl) (by first | rfl | assumption) (BT.cs_length _ _) (rfl) rfl ?_ | refine JL.store_boxF 0 ty92 (.tmp rfl) rfl (.tmp rfl) (by first | rfl | assumption) (BT.cs_length _ _) (BT.cs_length _ _) rfl ?_ | refine JL.store_box 0 ty92 (.tmp rfl) rfl (.tmp rfl) (by first | rfl | assumption) rfl rfl rfl rfl ?_ | refine JL.store_box 0 ty92 (.tmp rfl) rfl (.tmp rfl) (by first | rfl | assumption) (BT.cs_length _ _) rfl rfl rfl ?_
  refine JL.q rfl rfl rfl (QW.assign (.tmp rfl)) ?_
  refine JL.q rfl rfl rfl (QW.assign (.tmp rfl)) ?_
  refine JL.nil ?_
  refine thenQ.n ?_
  refine J.seq ?_
  refine J.region_lit ?_
  refine JL.q rfl rfl rfl (QW.move (.tmp rfl)) ?_
  refine JL.q rfl rfl rfl (QW.call gofn61 (.cons (.tmp rfl) .nil) (num08_ok _)) ?_
  refine JL.q rfl rfl rfl (QW.move (.tmp rfl)) ?_
  refine JL.q rfl rfl rfl (QW.call gofn61 (.cons (.tmp rfl) .nil) (num08_ok _)) ?_
  refine JL.q rfl rfl rfl (QW.add (.tmp rfl) (.tmp rfl) (by first | exact w64n (by first | rfl | omega | (simp; done)) (by omega) | exact w64 (by omega) | rfl)) ?_
  refine JL.q rfl rfl rfl (QW.move (.tmp rfl)) ?_
  refine JL.q rfl rfl rfl (QW.call gofn61 (.cons (.tmp rfl) .nil) (num08_ok _)) ?_
  refine JL.q rfl rfl rfl (QW.add (.tmp rfl) (.tmp rfl) (by first | exact w64n (by first | rfl | omega | (simp; done)) (by omega) | exact w64 (by omega) | rfl)) ?_
  refine JL.q rfl rfl rfl (QW.eql (.tmp rfl) .const) ?_
  refine JL.q rfl rfl rfl (QW.move (.tmp rfl)) ?_
  refine JL.g rfl rfl rfl rfl rfl (fun hg => (QW.move (.tmp rfl))) ?_
  refine JL.g rfl rfl rfl rfl rfl (fun hg => (by first | exact QW.len_slE sl88 (.when rfl hg) (ItT.css_length _ _) | exact QW.len_slE sl88 (.when rfl hg) (EvT.css_length _ _) | exact QW.len_sl sl88 (.when rfl hg) | exact QW.len_nil sl88 (.when rfl hg))) ?_
  refine JL.g rfl rfl rfl rfl rfl (fun hg => (QW.eql (.when rfl hg) .const)) ?_
  refine JL.q rfl rfl rfl (QW.pick_and (.tmp rfl) (.tmp rfl)) ?_
  refine JL.q rfl rfl rfl (QW.move (.tmp rfl)) ?_
  refine JL.g rfl rfl rfl rfl rfl (fun hg => (QW.move (.tmp rfl))) ?_
  refine JL.g rfl rfl rfl rfl rfl (fun hg => (QW.index_sl sl88 ty116 rfl (.when rfl hg) .const (by first | rfl | omega | (simp; done)) (by rfl))) ?_
  refine JL.g rfl rfl rfl rfl rfl (fun hg => (QW.field_ref fo116_0 (.when rfl hg) rfl)) ?_
  refine JL.g rfl rfl rfl rfl rfl (fun hg => (QW.load_ref1 ty3 (.when rfl hg) rfl)) ?_
  refine JL.g rfl rfl rfl rfl rfl (fun hg => (QW.eql (.when rfl hg) .const)) ?_
  refine JL.q rfl rfl rfl (QW.pick_and (.tmp rfl) (.tmp rfl)) ?_
  refine JL.q rfl rfl rfl (QW.move (.tmp rfl)) ?_
  refine JL.g rfl rfl rfl rfl rfl (fun hg => (QW.move (.tmp rfl))) ?_
  refine JL.g rfl rfl rfl rfl rfl (fun hg => (QW.index_sl sl88 ty116 rfl (.when rfl hg) .const (by first | rfl | omega | (simp; done)) (by rfl))) ?_
  refine JL.g rfl rfl rfl rfl rfl (fun hg => (QW.field_ref fo116_0 (.when rfl hg) rfl)) ?_
  refine JL.g rfl rfl rfl rfl rfl (fun hg => (QW.load_ref1 ty3 (.when rfl hg) rfl)) ?_
  refine JL.g rfl rfl rfl rfl rfl (fun hg => (QW.eql (.when rfl hg) .const)) ?_
  refine JL.q rfl rfl rfl (QW.pick_and (.tmp rfl) (.tmp rfl)) ?_
  refine JL.q rfl rfl rfl (QW.move (.tmp rfl)) ?_
  refine JL.g rfl rfl rfl rfl rfl (fun hg => (QW.move (.tmp rfl))) ?_
  refine JL.q rfl rfl rfl (QW.pick_and (.tmp rfl) (.tmp rfl)) ?_
  refine JL.q rfl rfl rfl (QW.move (.tmp rfl)) ?_
  refine JL.g rfl rfl rfl rfl rfl (fun hg => (QW.field_ptr fo92_1 (.tmp rfl) rfl)) ?_
  refine JL.g rfl rfl rfl rfl rfl (fun hg => (QW.load_box1 0 ty88 (.when rfl hg) rfl rfl)) ?_
  refine JL.g rfl rfl rfl rfl rfl (fun hg => (by first | exact QW.len_slE sl88 (.when rfl hg) (ItT.css_length _ _) | exact QW.len_slE sl88 (.when rfl hg) (EvT.css_length _ _) | exact QW.len_sl sl88 (.when rfl hg) | exact QW.len_nil sl88 (.when rfl hg))) ?_
  refine JL.g rfl rfl rfl rfl rfl (fun hg => (QW.eql (.when rfl hg) .const)) ?_
  refine JL.q rfl rfl rfl (QW.pick_and (.tmp rfl) (.tmp rfl)) ?_
  refine JL.q rfl rfl rfl (QW.assign (.tmp rfl)) ?_
  refine JL.nil ?_
  refine thenQ.n ?_
  refine J.ret ?_
  exact ⟨_, selP [.k] _, _, RetEv.one rfl (REv.tmp rfl (.refl _)), rfl, sel_perm [.k] _, ⟨rfl, rfl⟩⟩
end Go.Proofs.Ytkiankpmkglhcaa.J

/- Walks: OutboxNumbers. -/
namespace Go.Proofs.Ytkiankpmkglhcaa.J
open Go Go.RowKit
set_option linter.unusedVariables false
set_option linter.unusedSimpArgs false
set_option maxRecDepth 10000
set_option maxHeartbeats 4000000
def EvT.dfl : EvT := ⟨[], .nil⟩
theorem addAt {fr fr2 c2 : Bool} {q x : BT} {seq f : Int} {m : List EvT} (hw : q.wf) (hm : EvT.wfs m) (g : q.add seq m = (x, f)) : Fn Try.prog 54 [.agg (q.cs fr), .c (.int .i64 seq), .sl fr2 c2 eEv (EvT.css fr2 m)] (.tup [x.av, .c (.int .i64 f)]) := by
  have := badd_ok (fr := fr) (fr2 := fr2) (c2 := c2) (q := q) (m := m) Bc.self seq hw hm
  rwa [addAV_of g] at this
end Go.Proofs.Ytkiankpmkglhcaa.J

/- Boxes that may be: what events and acknowledgements make of them. -/
namespace Go.Proofs.Ytkiankpmkglhcaa.J
open Go Go.RowKit
set_option linter.unusedVariables false
set_option linter.unusedSimpArgs false
theorem idsOk_mk {la : Int} : ∀ {l : List ItT} {p : Int}, List.Pairwise (fun a b => a.id < b.id) l → (∀ x ∈ l, p < x.id ∧ x.id < 32 * (la + 1) ∧ evOk x.ev = true) → idsOk la p l = true
  | [], p, _, _ => rfl
  | x :: r, p, hp, h => by
    obtain ⟨h1, h2⟩ := List.pairwise_cons.1 hp
    obtain ⟨g1, g2, g3⟩ := h x (by simp)
    simp only [idsOk, Bool.and_eq_true, decide_eq_true_eq]
    exact ⟨⟨⟨g1, g2⟩, g3⟩, idsOk_mk h2 fun y hy => ⟨h1 y hy, (h y (by simp [hy])).2⟩⟩
structure BT.Good (q : BT) : Prop where
  l0 : 0 ≤ q.last
  l1 : q.last ≤ 1099511627776
  ln : q.items.length ≤ 256
  pw : List.Pairwise (fun a b => a.id < b.id) q.items
  el : ∀ x ∈ q.items, 31 < x.id ∧ x.id < 32 * (q.last + 1) ∧ evOk x.ev = true
theorem BT.Good.ok {q : BT} (h : q.Good) : q.ok = true := by
  unfold BT.ok
  simp only [Bool.and_eq_true, decide_eq_true_eq]
  exact ⟨⟨⟨h.l0, h.l1⟩, h.ln⟩, idsOk_mk h.pw h.el⟩
theorem BT.Good.of {q : BT} (h : q.ok = true) : q.Good := by
  unfold BT.ok at h
  simp only [Bool.and_eq_true, decide_eq_true_eq] at h
  obtain ⟨⟨⟨h0, h1⟩, h2⟩, h3⟩ := h
  exact ⟨h0, h1, h2, (idsOk_all h3).1, (idsOk_all h3).2⟩
theorem BT.Good.nil : BT.nil.Good := ⟨by decide, by decide, by decide, .nil, fun x h => by cases h⟩
theorem numIt_at (seq : Int) : ∀ (m : List EvT) (i : Nat) (x : ItT), x ∈ numIt seq i m → ∃ j, ∃ h : j < m.length, x = ⟨32 * seq + ((i + j : Nat) : Int), m[j]⟩
  | e :: r, i, x, h => by
    rcases List.mem_cons.1 h with rfl | h
    · exact ⟨0, by simp, rfl⟩
    · obtain ⟨j, hj, rfl⟩ := numIt_at seq r (i + 1) x h
      exact ⟨j + 1, by simpa using hj, by simp only [List.getElem_cons_succ, ItT.mk.injEq, and_true]; omega⟩
theorem numIt_pw (seq : Int) : ∀ (m : List EvT) (i : Nat), List.Pairwise (fun a b => a.id < b.id) (numIt seq i m)
  | [], i => .nil
  | e :: r, i => by
    refine List.pairwise_cons.2 ⟨fun y hy => ?_, numIt_pw seq r (i + 1)⟩
    obtain ⟨j, hj, rfl⟩ := numIt_at seq r (i + 1) y hy
    simp only
    omega
theorem evsErr_all : ∀ {m : List EvT}, evsErr m = 0 → ∀ e ∈ m, evOk e = true
  | x :: r, h, e, he => by
    unfold evsErr at h
    split at h
    · rename_i h1; exact absurd h h1
    · rename_i h1
      rcases List.mem_cons.1 he with rfl | he
      · exact ErrOk.1 (by simpa using h1)
      · exact evsErr_all h e he
theorem BT.Good.join {q : BT} {seq : Int} {m : List EvT} (h : q.Good) (h1 : q.last < seq) (h2 : seq ≤ 1099511627776) (h3 : m.length ≤ 32) (h4 : evsErr m = 0) (h5 : q.items.length + m.length ≤ 256) : (BT.mk seq (q.items ++ numIt seq 0 m)).Good := by
  have h0 := h.l0
  have hnew : ∀ x ∈ numIt seq 0 m, 32 * seq ≤ x.id ∧ x.id < 32 * (seq + 1) ∧ evOk x.ev = true := fun x hx => by
    obtain ⟨j, hj, rfl⟩ := numIt_at seq m 0 x hx
    refine ⟨?_, ?_, evsErr_all h4 _ (List.getElem_mem hj)⟩ <;> simp only <;> omega
  refine ⟨by simp only; omega, h2, by simp only [List.length_append, numIt_length]; exact h5, ?_, fun x hx => ?_⟩
  · refine List.pairwise_append.2 ⟨h.pw, numIt_pw seq m 0, fun a ha b hb => ?_⟩
    have := (h.el a ha).2.1
    have := (hnew b hb).1
    omega
  · rcases List.mem_append.1 hx with hx | hx
    · obtain ⟨g1, g2, g3⟩ := h.el x hx
      exact ⟨g1, by simp only; omega, g3⟩
    · obtain ⟨g1, g2, g3⟩ := hnew x hx
      exact ⟨by omega, g2, g3⟩
theorem BT.Good.add {q : BT} {seq : Int} {m : List EvT} (h : q.Good) (h1 : q.last < seq) (h2 : seq ≤ 1099511627776) (h3 : m.length ≤ 32) (h4 : evsErr m = 0) (h5 : q.items.length + m.length ≤ 256) : q.add seq m = (⟨seq, q.items ++ numIt seq 0 m⟩, 0) := by
  unfold BT.add
  rw [if_neg (by simp [h.ok]), if_neg (by omega), if_neg (by omega), if_neg (by omega), if_neg (by simp [h4]), if_neg (by omega)]
theorem BT.Good.full {q : BT} {seq : Int} {m : List EvT} (h : q.Good) (h1 : q.last < seq) (h2 : seq ≤ 1099511627776) (h3 : m.length ≤ 32) (h4 : evsErr m = 0) (h5 : 256 < q.items.length + m.length) : q.add seq m = (.nil, 51) := by
  unfold BT.add
  rw [if_neg (by simp [h.ok]), if_neg (by omega), if_neg (by omega), if_neg (by omega), if_neg (by simp [h4]), if_pos h5]
/-- What is acknowledged: it alone goes. -/
theorem filter_pw : ∀ {l : List ItT} {k : Nat} (h : k < l.length), List.Pairwise (fun a b => a.id < b.id) l → (l.filter fun x => decide (x.id ≠ l[k].id)) = l.eraseIdx k
  | x :: r, 0, _, hp => by
    obtain ⟨h1, h2⟩ := List.pairwise_cons.1 hp
    simp only [List.getElem_cons_zero, List.eraseIdx_zero, List.tail_cons]
    rw [List.filter_cons_of_neg (by simp)]
    exact List.filter_eq_self.2 fun y hy => by have := h1 y hy; simp; omega
  | x :: r, k + 1, h, hp => by
    obtain ⟨h1, h2⟩ := List.pairwise_cons.1 hp
    have hk : k < r.length := by simpa using h
    have := h1 _ (List.getElem_mem hk)
    simp only [List.getElem_cons_succ, List.eraseIdx_cons_succ]
    rw [List.filter_cons_of_pos (by simp; omega), filter_pw hk h2]
theorem BT.Good.less {q : BT} (h : q.Good) (k : Nat) : (BT.mk q.last (q.items.eraseIdx k)).Good :=
  ⟨h.l0, h.l1, Nat.le_trans (List.length_eraseIdx_le _ _) h.ln, h.pw.sublist (List.eraseIdx_sublist _ _), fun x hx => h.el x (List.mem_of_mem_eraseIdx hx)⟩
theorem BT.Good.ack {q : BT} (h : q.Good) {k : Nat} (hk : k < q.items.length) : q.ack q.items[k].id = (⟨q.last, q.items.eraseIdx k⟩, true, 0) := by
  obtain ⟨g1, g2, _⟩ := h.el _ (List.getElem_mem hk)
  unfold BT.ack
  rw [if_neg (by simp [h.ok]), if_neg (by omega), filter_pw hk h.pw]
  have : (q.items.any fun x => decide (x.id = q.items[k].id)) = true := List.any_eq_true.2 ⟨_, List.getElem_mem hk, by simp⟩
  rw [this]
/-- A second time nothing goes. -/
theorem BT.Good.ack2 {q : BT} (h : q.Good) {k : Nat} (hk : k < q.items.length) : (BT.mk q.last (q.items.eraseIdx k)).ack q.items[k].id = (⟨q.last, q.items.eraseIdx k⟩, false, 0) := by
  obtain ⟨g1, g2, _⟩ := h.el _ (List.getElem_mem hk)
  have hne : ∀ x ∈ q.items.eraseIdx k, x.id ≠ q.items[k].id := fun x hx => by
    rw [← filter_pw hk h.pw, List.mem_filter] at hx
    simpa using hx.2
  unfold BT.ack
  rw [if_neg (by simp [(h.less k).ok]), if_neg (by simp only; omega)]
  simp only
  rw [List.filter_eq_self.2 (fun x hx => by simpa using hne x hx)]
  have : ((q.items.eraseIdx k).any fun x => decide (x.id = q.items[k].id)) = false := by
    rw [List.any_eq_false]
    intro x hx
    simpa using hne x hx
  rw [this]
end Go.Proofs.Ytkiankpmkglhcaa.J

/- Where two ways meet: what holds of both is told, and the rest is walked once. -/
namespace Go.Proofs.Ytkiankpmkglhcaa.J
open Go Go.RowKit
section
variable {P : Program} {E : Ent} {Q : Exit → St → Prop} {n : Nat} {env : List (Nat × AV)} {own : List Own} {F : List (Value × AV)} {D : List Deferred}
end
end Go.Proofs.Ytkiankpmkglhcaa.J

/- Walks: QueueTells, QueueRefuses. -/
namespace Go.Proofs.Ytkiankpmkglhcaa.J
open Go Go.RowKit
set_option linter.unusedVariables false
set_option linter.unusedSimpArgs false
set_option maxRecDepth 10000
set_option maxHeartbeats 4000000
theorem QT.nil_wf : QT.nil.wf := ⟨by decide, by decide, EvT.wfs_nil⟩
theorem QT.cs_length (fr : Bool) : ∀ q : QT, (q.cs fr).length = 3
  | ⟨_, _, _⟩ => rfl
end Go.Proofs.Ytkiankpmkglhcaa.J

/- Walks: QueueOrder. -/
namespace Go.Proofs.Ytkiankpmkglhcaa.J
open Go Go.RowKit
set_option linter.unusedVariables false
set_option linter.unusedSimpArgs false
set_option maxRecDepth 10000
set_option maxHeartbeats 4000000
def eI64 : ETy := ⟨1, 8⟩
def intsAV (l : List Int) : List (List AV) := l.map fun n => [.c (.int .i64 n)]
theorem intsAV_length (l : List Int) : (intsAV l).length = l.length := by simp [intsAV]
theorem intsAV_getE {l : List Int} {i : Nat} (h : i < l.length) : (intsAV l)[i]? = some [.c (.int .i64 l[i])] := by simp [intsAV, h]
theorem tmod_b (n : Int) (k : Nat) (hk : 0 < k) : -(k : Int) < n.tmod k ∧ n.tmod k < k := by
  have h1 := Nat.mod_lt n.natAbs hk
  cases n with
  | ofNat m =>
    have : Int.tmod (Int.ofNat m) (k : Int) = ((m % k : Nat) : Int) := rfl
    rw [this]
    have := Nat.mod_lt m hk
    omega
  | negSucc m =>
    have : Int.tmod (Int.negSucc m) (k : Int) = -(((m + 1) % k : Nat) : Int) := rfl
    rw [this]
    have := Nat.mod_lt (m + 1) hk
    omega
theorem tmod_nn {n : Int} (k : Nat) (h : 0 ≤ n) : 0 ≤ n.tmod k := by
  obtain ⟨m, rfl⟩ := Int.eq_ofNat_of_zero_le h
  exact Int.natCast_nonneg (m % k)
/-- What waits behind k of the events I that were pushed. -/
def QT.at (lim : Int) (I : List EvT) (k : Nat) : QT := ⟨lim, (I.length : Int), I.drop k⟩
mutual
theorem V.chk_rng : ∀ (v : V) (lev n : Int), (v.chk lev n).1 = 0 ∨ (v.chk lev n).1 = 3 ∨ (v.chk lev n).1 = 9 ∨ (v.chk lev n).1 = 10
  | .mk k b t ks is, lev, n => by
    unfold V.chk
    split
    · simp
    · split
      · simp
      · split
        · simp
        · exact V.chks_rng is lev (n + 1)
theorem V.chks_rng : ∀ (l : List V) (lev n : Int), (V.chks l lev n).1 = 0 ∨ (V.chks l lev n).1 = 3 ∨ (V.chks l lev n).1 = 9 ∨ (V.chks l lev n).1 = 10
  | [], lev, n => by simp [V.chks]
  | x :: r, lev, n => by
    unfold V.chks
    split
    · exact V.chk_rng x _ _
    · exact V.chks_rng r _ _
end
theorem V.err_rng (v : V) : v.err = 0 ∨ v.err = 3 ∨ v.err = 9 ∨ v.err = 10 := V.chk_rng v 1 0
theorem evErr_rng (e : EvT) : evErr e = 0 ∨ evErr e = 3 ∨ evErr e = 9 ∨ evErr e = 10 ∨ evErr e = 31 := by
  unfold evErr
  split
  · have := V.err_rng e.arg; omega
  · simp
structure QAt (lim : Int) (I : List EvT) (k n : Nat) : Prop where
  hk : k ≤ I.length
  hn : I.length ≤ n
  ok : (QT.at lim I k).ok = true
  wf : EvT.wfs I
theorem QAt.start {lim : Int} (h : 1 ≤ lim ∧ lim ≤ 9) : QAt lim [] 0 0 := ⟨by simp, by simp, by unfold QT.at QT.ok; simp; omega, EvT.wfs_nil⟩
theorem QAt.push {lim : Int} {I : List EvT} {k n : Nat} {e : EvT} (h : QAt lim I k n) (he : e.wf) (hn : n < 40) : ∃ q m f, (QT.at lim I k).push e = (q, m, f) ∧ (f = 0 → q = QT.at lim (I ++ [e]) k ∧ m = (I.length : Int) + 1 ∧ QAt lim (I ++ [e]) k (n + 1)) ∧ (f = 51 → (I.length : Int) - k = lim) := by
  obtain ⟨h1, h2, h3, h4, h5, h6⟩ := QT.ok_inv h.ok
  have hh := h.hk
  have hh2 := h.hn
  have hok := h.ok
  simp only [QT.at, List.length_drop] at h1 h2 h3 h4 h5 h6
  by_cases he0 : evErr e = 0
  · by_cases hfl : ((QT.at lim I k).events.length : Int) = (QT.at lim I k).limit ∨ (QT.at lim I k).last = 1099511627776
    · refine ⟨.nil, 0, 51, by unfold QT.push; rw [if_neg (by simp [hok]), if_neg (by simp [he0]), if_pos hfl], (fun hf => absurd hf (by decide)), fun _ => ?_⟩
      simp only [QT.at, List.length_drop] at hfl
      omega
    · have hq : (⟨(QT.at lim I k).limit, (QT.at lim I k).last + 1, (QT.at lim I k).events ++ [e]⟩ : QT) = QT.at lim (I ++ [e]) k := by
        unfold QT.at
        rw [List.drop_append_of_le_length hh]
        simp
      refine ⟨⟨(QT.at lim I k).limit, (QT.at lim I k).last + 1, (QT.at lim I k).events ++ [e]⟩, (QT.at lim I k).last + 1, 0, by unfold QT.push; rw [if_neg (by simp [hok]), if_neg (by simp [he0]), if_neg hfl], (fun _ => ⟨hq, rfl, ⟨by simp; omega, by simp; omega, ?_, h.wf.snoc he (by omega)⟩⟩), fun hf => absurd hf (by decide)⟩
      rw [← hq]
      simp only [QT.at, List.length_drop] at hfl
      unfold QT.ok QT.at
      simp only [List.length_append, List.length_drop, List.length_singleton, List.all_append, h6, List.all_cons, List.all_nil, Bool.and_true, Bool.true_and, evOk_iff, Bool.and_eq_true, decide_eq_true_eq]
      refine ⟨⟨⟨⟨⟨h1, h2⟩, ?_⟩, ?_⟩, ?_⟩, by rw [he0]; rfl⟩
      · push_cast; omega
      · push_cast; omega
      · omega
  · refine ⟨.nil, 0, evErr e, by unfold QT.push; rw [if_neg (by simp [hok]), if_pos he0], (fun hf => absurd hf he0), fun hf => ?_⟩
    have := evErr_rng e
    omega
theorem QAt.take {lim : Int} {I : List EvT} {k n : Nat} (h : QAt lim I k n) (c : Int) (hc : 0 ≤ c) : ∃ m : Nat, (m : Int) = min c ((I.length : Int) - k) ∧ (QT.at lim I k).take c = (QT.at lim I (k + m), (I.drop k).take m, (if 0 < m then (k : Int) + 1 else 0), 0) ∧ QAt lim I (k + m) n := by
  obtain ⟨h1, h2, h3, h4, h5, h6⟩ := QT.ok_inv h.ok
  have hh := h.hk
  have hh2 := h.hn
  have hcut : (QT.cut (QT.at lim I k) c : Int) = min c ((I.length : Int) - k) := by unfold QT.cut QT.at; simp only [List.length_drop]; omega
  refine ⟨QT.cut (QT.at lim I k) c, hcut, ?_, ?_⟩
  · generalize hm : QT.cut (QT.at lim I k) c = m at *
    unfold QT.take
    rw [if_neg (by simp [h.ok]), if_neg (by omega), hm]
    unfold QT.at
    simp only [List.drop_drop, List.length_drop, Prod.mk.injEq, true_and, and_true]
    split
    · omega
    · rfl
  · generalize hm : QT.cut (QT.at lim I k) c = m at *
    simp only [QT.at, List.length_drop] at h1 h2 h3 h4 h5 h6
    refine ⟨by omega, hh2, ?_, h.wf⟩
    unfold QT.ok QT.at
    simp only [List.length_drop, Bool.and_eq_true, decide_eq_true_eq]
    refine ⟨⟨⟨⟨⟨h1, h2⟩, by omega⟩, by omega⟩, by omega⟩, ?_⟩
    rw [List.all_eq_true] at h6 ⊢
    intro x hx
    rw [← List.drop_drop] at hx
    exact h6 x (List.mem_of_mem_drop hx)
end Go.Proofs.Ytkiankpmkglhcaa.J

/- Walks: OutboxFull. -/
namespace Go.Proofs.Ytkiankpmkglhcaa.J
open Go Go.RowKit
set_option linter.unusedVariables false
set_option linter.unusedSimpArgs false
set_option maxRecDepth 10000
set_option maxHeartbeats 4000000
theorem ackAt {fr : Bool} {q x : BT} {id f : Int} {b : Bool} (hw : q.wf) (g : q.ack id = (x, b, f)) : Fn Try.prog 56 [.agg (q.cs fr), .c (.int .i64 id)] (.tup [x.av, .c (.bool b), .c (.int .i64 f)]) := by
  have := back_ok (fr := fr) (q := q) Bc.self id hw
  rwa [ackAV_of g] at this
theorem ack_wfE {q x : BT} {id f : Int} {b : Bool} (hw : q.wf) (g : q.ack id = (x, b, f)) : x.wf := by
  have := BT.ack_wf (id := id) hw
  rwa [g] at this
theorem add_wfE {q x : BT} {seq f : Int} {m : List EvT} (hw : q.wf) (hm : EvT.wfs m) (g : q.add seq m = (x, f)) : x.wf := by
  have := BT.add_wf1 (seq := seq) hw hm
  rwa [g] at this
end Go.Proofs.Ytkiankpmkglhcaa.J

/- Walks: OutboxStays. -/
namespace Go.Proofs.Ytkiankpmkglhcaa.J
open Go Go.RowKit
set_option linter.unusedVariables false
set_option linter.unusedSimpArgs false
set_option maxRecDepth 10000
set_option maxHeartbeats 4000000
def idsAV (l : List ItT) : List (List AV) := intsAV (l.map (·.id))
theorem idsAV_length (l : List ItT) : (idsAV l).length = l.length := by simp [idsAV, intsAV]
theorem idsAV_at {l : List ItT} {k : Nat} (h : k < l.length) : (idsAV l)[k]? = some [.c (.int .i64 l[k].id)] := by simp [idsAV, intsAV, h]
theorem idsAV_snoc (l : List ItT) (x : ItT) : idsAV l ++ [[.c (.int .i64 x.id)]] = idsAV (l ++ [x]) := by simp [idsAV, intsAV]
theorem idsAV_erase (l : List ItT) (k : Nat) : [] ++ (idsAV l).take k ++ (idsAV l).drop (k + 1) = idsAV (l.eraseIdx k) := by
  rw [List.eraseIdx_eq_take_drop_succ, List.nil_append, idsAV, idsAV, List.map_append, List.map_take, List.map_drop, intsAV, intsAV, List.map_append, List.map_take, List.map_drop]
theorem BT.Good.inv {q x : BT} {seq : Int} {m : List EvT} (h : q.Good) (h1 : q.last < seq) (h2 : seq ≤ 1099511627776) (h3 : m.length ≤ 32) (g : q.add seq m = (x, 0)) : x = ⟨seq, q.items ++ numIt seq 0 m⟩ ∧ x.Good := by
  by_cases h4 : evsErr m = 0
  · by_cases h5 : q.items.length + m.length ≤ 256
    · rw [h.add h1 h2 h3 h4 h5] at g
      cases g
      exact ⟨rfl, h.join h1 h2 h3 h4 h5⟩
    · rw [h.full h1 h2 h3 h4 (by omega)] at g
      cases g
  · exfalso
    unfold BT.add at g
    rw [if_neg (by simp [h.ok]), if_neg (by omega), if_neg (by omega), if_neg (by omega), if_pos h4] at g
    exact h4 (congrArg Prod.snd g)
theorem nextAt {fr : Bool} {q : BT} {n f : Int} {l : List ItT} (hw : q.wf) (g : q.next n = (l, f)) : Fn Try.prog 58 [.agg (q.cs fr), .c (.int .i64 n)] (.tup [itsAV l, .c (.int .i64 f)]) := by
  have := bnext_ok (fr := fr) (q := q) Bc.self n hw
  rwa [nextAV_of g] at this
theorem BT.Good.next {q : BT} (h : q.Good) : q.next 1073741824 = (q.items, 0) := by
  have := h.ln
  unfold BT.next
  rw [if_neg (by simp [h.ok]), if_neg (by decide), List.take_of_length_le (by omega)]
theorem outboxStays_ok {ks aa : List Int} {m : List EvT} (hk : ks.length * 8 ≤ reach) (hkb : ∀ t ∈ ks, -9223372036854775808 ≤ t ∧ t ≤ 9223372036854775807) (hm : EvT.wfs m) (ha : aa.length * 8 ≤ reach) (hab : ∀ t ∈ aa, -9223372036854775808 ≤ t ∧ t ≤ 9223372036854775807) : Fn Try.prog 15 [.sl false false eI64 (intsAV ks), .sl false false eEv (EvT.css false m), .sl false false eI64 (intsAV aa)] (.c (.bool true)) := by
  have hkl : ks.length ≤ 17592186044416 := by unfold reach at hk; omega
  have hal : aa.length ≤ 17592186044416 := by unfold reach at ha; omega
  have hml := hm.len
  refine AC.of_J Try.func15 rfl Try.ntmps15 rfl fun w0 A0 => ?_
  refine J.seq ?_
  refine J.region_lit ?_
  refine JL.q rfl rfl rfl (QW.assign .const) ?_
  refine JL.nil ?_
  refine thenQ.n ?_
  refine J.seq ?_
  refine J.seq ?_
  refine J.region_lit ?_
  refine JL.q rfl rfl rfl (QW.call gofn66 .nil (alive08_ok)) ?_
  refine JL.q rfl rfl rfl (QW.not (.tmp rfl)) ?_
  refine JL.nil ?_
  refine thenQ.n ?_
  refine J.cond (.tmp rfl) (fun c1 => ?_) (fun c1 => ?_)
  · skip
    exact absurd c1 (by simp)
    --closed
  · skip
    skip
    refine J.skip ?_
    refine thenQ.n ?_
    refine J.seq ?_
    refine J.region_lit ?_
    refine JL.q rfl rfl rfl (QW.call gofn67 .nil (bnew_ok)) ?_
    refine JL.alloc z92 rfl rfl fun b7 => ?_
    first | refine JL.store_boxF 0 ty92 (.tmp rfl) rfl (.tmp rfl) (by first | rfl | assumption) (rfl) (rfl) rfl ?_ | refine JL.store_boxF 0 ty92 (.tmp rfl) rfl (.tmp rfl) (by first | rfl | assumption) (rfl) (BT.cs_length _ _) rfl ?_ | refine JL.store_boxF 0 ty92 (.tmp rfl) rfl (.tmp rfl) (by first | rfl | assumption) (BT.cs_length _ _) (rfl) rfl ?_ | refine JL.store_boxF 0 ty92 (.tmp rfl) rfl (.tmp rfl) (by first | rfl | assumption) (BT.cs_length _ _) (BT.cs_length _ _) rfl ?_ | refine JL.store_box 0 ty92 (.tmp rfl) rfl (.tmp rfl) (by first | rfl | assumption) rfl rfl rfl rfl ?_ | refine JL.store_box 0 ty92 (.tmp rfl) rfl (.tmp rfl) (by first | rfl | assumption) (BT.cs_length _ _) rfl rfl rfl ?_
    refine JL.nil ?_
    refine thenQ.n ?_
    refine J.seq ?_
    refine J.region_lit ?_
    refine JL.q rfl rfl rfl (QW.assign .const) ?_
    refine JL.nil ?_
    refine thenQ.n ?_
    refine J.seq ?_
    refine J.region_lit ?_
    refine JL.q rfl rfl rfl (QW.assign .const) ?_
    refine JL.nil ?_
    refine thenQ.n ?_
    refine J.seq ?_
    refine J.seq ?_
    refine J.region_lit ?_
    refine JL.q rfl rfl rfl (QW.assign .const) ?_
    refine JL.nil ?_
    refine thenQ.n ?_
    refine J.block ?_
    refine J.reown (Reown.nilArrE eI64 _) ?_
    refine J.loopK (ι := Nat × Nat × BT × Value) [0, 1, 2, 7] (fun ⟨j, La, b, v⟩ => [(10, .c (.int .i64 (j : Int))), (9, .c (.int .i64 (La : Int))), (8, .c v)]) (fun ⟨j, La, b, v⟩ oo => List.set (List.set oo 0 (.box b7 (b.cs true))) 1 (.arr v eI64 (idsAV b.items))) (fun ⟨j, La, b, v⟩ => j ≤ 12 ∧ b.Good ∧ b.wf ∧ b.last ≤ La ∧ La ≤ 5 * j) (fun ⟨j, La, b, v⟩ => 12 - j) ⟨0, 0, .nil, .slice none 0 0⟩ (⟨by decide, .nil, BT.nil_wf, by decide, by decide⟩) (Wk.re (.cons rfl (.refl _) (.cons rfl (.refl _) (.cons rfl (.refl _) (.cons rfl (.refl _) (.cons rfl (.refl _) (.cons rfl (.refl _) (.cons rfl (.refl _) .nil))))))) (Reown.refl _) (fun _ h => by first | exact h | simp [h])) ?_
    intro ⟨j, La, b, v⟩ ⟨hj12, hb, hw, hbl, hLa⟩
    refine J.conv (by (try simp only [stepsO, List.map_cons, List.map_nil, valO, nthO, curO, mrg, List.reverse_cons, List.reverse_nil, List.nil_append, List.cons_append, List.append_nil, List.getElem?_cons_zero, List.getElem?_cons_succ, Option.map_some, Option.getD_some, List.set_cons_zero, List.set_cons_succ, AV.cellsOf, splice_zero, splice_succ, Nat.zero_add, Nat.reduceAdd]); rfl) ?_
    refine J.seq ?_
    refine J.seq ?_
    refine J.region_lit ?_
    refine JL.q rfl rfl rfl (QW.move (.tmp rfl)) ?_
    refine JL.q rfl rfl rfl (QW.move (.tmp rfl)) ?_
    refine JL.q rfl rfl rfl (by first | exact QW.len_slE sl66 (.tmp rfl) (ItT.css_length _ _) | exact QW.len_slE sl66 (.tmp rfl) (EvT.css_length _ _) | exact QW.len_slE sl66 (.tmp rfl) (intsAV_length _) | exact QW.len_sl sl66 (.tmp rfl) | exact QW.len_nil sl66 (.tmp rfl)) ?_
    refine JL.q rfl rfl rfl (QW.lss (.tmp rfl) (.tmp rfl)) ?_
    refine JL.q rfl rfl rfl (QW.move (.tmp rfl)) ?_
    refine JL.g rfl rfl rfl rfl rfl (fun hg => (QW.move (.tmp rfl))) ?_
    refine JL.g rfl rfl rfl rfl rfl (fun hg => (QW.lss (.when rfl hg) .const)) ?_
    refine JL.q rfl rfl rfl (QW.pick_and (.tmp rfl) (.tmp rfl)) ?_
    refine JL.nil ?_
    refine thenQ.n ?_
    refine J.cond (.tmp rfl) (fun c2 => ?_) (fun c2 => ?_)
    · skip
      have hj1 : j < ks.length := by simp [intsAV_length] at c2; omega
      have hj2 : j + 1 ≤ 12 := by simp [intsAV_length] at c2; omega
      have t1 := tmod_b (ks[j]'hj1) 5 (by decide)
      have t2 := tmod_nn (n := (ks[j]'hj1).tmod 5 + 5) 5 (by simp only [Int.cast_ofNat_Int] at t1; omega)
      have t3 := tmod_b ((ks[j]'hj1).tmod 5 + 5) 5 (by decide)
      simp only [Int.cast_ofNat_Int] at t1 t2 t3
      obtain ⟨L2, hL2⟩ : ∃ L2 : Nat, (La : Int) + 1 + ((ks[j]'hj1).tmod 5 + 5).tmod 5 = (L2 : Int) := ⟨((La : Int) + 1 + ((ks[j]'hj1).tmod 5 + 5).tmod 5).toNat, by omega⟩
      have t4 := tmod_b (j : Int) 4 (by decide)
      have t5 := tmod_nn (n := (j : Int)) 4 (by omega)
      simp only [Int.cast_ofNat_Int] at t4 t5
      obtain ⟨nn, hnn⟩ : ∃ nn : Nat, (if ((j : Int).tmod 4) < (m.length : Int) then ((j : Int).tmod 4) else (m.length : Int)) = (nn : Int) := ⟨(if ((j : Int).tmod 4) < (m.length : Int) then ((j : Int).tmod 4) else (m.length : Int)).toNat, by split <;> omega⟩
      have hn1 : nn ≤ 3 ∧ nn ≤ m.length := by split at hnn <;> omega
      obtain ⟨mm, hmm⟩ : ∃ mm, m.take nn = mm := ⟨_, rfl⟩
      have hmm1 : EvT.wfs mm := hmm ▸ hm.take nn
      have hmm2 : mm.length = nn := by rw [← hmm]; simp; omega
      obtain ⟨x, f1, g1⟩ : ∃ x f, b.add (L2 : Int) mm = (x, f) := ⟨_, _, rfl⟩
      have hb0 := hb.l0
      have hbn := hb.ln
      refine J.skip ?_
      refine thenQ.n ?_
      refine J.seq ?_
      refine J.block ?_
      refine J.seq ?_
      refine J.region_lit ?_
      refine JL.q rfl rfl rfl (QW.move (.tmp rfl)) ?_
      refine JL.q rfl rfl rfl (QW.add (.tmp rfl) .const (w64 (by omega))) ?_
      refine JL.q rfl rfl rfl (QW.move (.tmp rfl)) ?_
      refine JL.q rfl rfl rfl (QW.move (.tmp rfl)) ?_
      refine JL.q rfl rfl rfl (QW.index_sl sl66 ty3 rfl (.tmp rfl) (.tmp rfl) (by first | rfl | omega | (simp; done)) (by exact intsAV_getE hj1)) ?_
      refine JL.q rfl rfl rfl (QW.load_ref1 ty3 (.tmp rfl) rfl) ?_
      refine JL.q rfl rfl rfl (QW.rem (.tmp rfl) .const (by first | decide | omega) rfl) ?_
      refine JL.q rfl rfl rfl (QW.add (.tmp rfl) .const (w64 (by omega))) ?_
      refine JL.q rfl rfl rfl (QW.rem (.tmp rfl) .const (by first | decide | omega) rfl) ?_
      refine JL.q rfl rfl rfl (QW.add (.tmp rfl) (.tmp rfl) ((w64 (by omega)).trans hL2)) ?_
      refine JL.q rfl rfl rfl (QW.assign (.tmp rfl)) ?_
      refine JL.nil ?_
      refine thenQ.n ?_
      refine J.seq ?_
      refine J.region_lit ?_
      refine JL.q rfl rfl rfl (QW.move (.tmp rfl)) ?_
      refine JL.q rfl rfl rfl (by first | exact QW.len_slE sl91 (.tmp rfl) (ItT.css_length _ _) | exact QW.len_slE sl91 (.tmp rfl) (EvT.css_length _ _) | exact QW.len_slE sl91 (.tmp rfl) (intsAV_length _) | exact QW.len_sl sl91 (.tmp rfl) | exact QW.len_nil sl91 (.tmp rfl)) ?_
      refine JL.q rfl rfl rfl (QW.move (.tmp rfl)) ?_
      refine JL.q rfl rfl rfl (QW.rem (.tmp rfl) .const (by first | decide | omega) rfl) ?_
      refine JL.q rfl rfl rfl (QW.conv (QW.min2 (.tmp rfl) (.tmp rfl)) (by rw [hnn])) ?_
      refine JL.q rfl rfl rfl (QW.assign (.tmp rfl)) ?_
      refine JL.nil ?_
      refine thenQ.n ?_
      refine J.seq ?_
      refine J.region_outK 11 2 (fun os_ ow_ x_ o_ => match os_ with | [] => (∃ b_, x_ = .c (.pointer (some ⟨b_, 0, none⟩)) ∧ o_ = ow_ ++ [.box b_ ([.int .i64 0, .slice none 0 0].map AV.c)]) | [(x0_, _)] => (∃ b_, x0_ = .c (.pointer (some ⟨b_, 0, none⟩)) ∧ x_ = .c undef ∧ o_ = ow_.set 2 (.box b_ (x.cs true))) | _ => False) mixed (by kernel_rfl) (by kernel_rfl) (by kernel_rfl) rfl ?_
      refine OutK.quiet [] rfl rfl rfl (fun qs_ qv_ ql_ => by
          rcases qs_ with _ | ⟨⟨y0, p0⟩, qs_⟩
          · skip
            exact (.q rfl (by first | exact QW.load_box 0 ty92 (.tmp rfl) rfl rfl rfl | exact QW.load_box 0 ty92 (.tmp rfl) rfl (take_at (BT.cs_length _ _) rfl) (BT.cs_length _ _)))
          rcases qs_ with _ | ⟨⟨y1, p1⟩, qs_⟩
          · skip
            obtain ⟨hr0, _⟩ := qv_
            obtain ⟨b12, rfl, rfl⟩ := hr0
            exact (.q rfl (by first | exact QW.load_box 0 ty92 (.tmp rfl) rfl rfl rfl | exact QW.load_box 0 ty92 (.tmp rfl) rfl (take_at (BT.cs_length _ _) rfl) (BT.cs_length _ _)))
          rcases qs_ with _ | ⟨⟨y2, p2⟩, qs_⟩
          · skip
            obtain ⟨hr1, hr0, _⟩ := qv_
            obtain ⟨b12, rfl, rfl⟩ := hr0
            obtain ⟨_, ⟨⟩, rfl, rfl⟩ := hr1
            exact (.q rfl (by first | exact QW.load_box 0 ty92 (.tmp rfl) rfl rfl rfl | exact QW.load_box 0 ty92 (.tmp rfl) rfl (take_at (BT.cs_length _ _) rfl) (BT.cs_length _ _)))
          exact absurd ql_ (by simp)) ?_
      refine OutK.quiet [] rfl rfl rfl (fun qs_ qv_ ql_ => (.q rfl (QW.move (.tmp rfl)))) ?_
      refine OutK.quiet [] rfl rfl rfl (fun qs_ qv_ ql_ => (.q rfl (QW.move (.tmp rfl)))) ?_
      refine OutK.quiet [] rfl rfl rfl (fun qs_ qv_ ql_ => (.q rfl (QW.move (.tmp rfl)))) ?_
      refine OutK.quiet [57, 58] rfl rfl rfl (fun qs_ qv_ ql_ => (.q rfl (QW.slice_H sl91 ty114 rfl (.tmp rfl) (.tmp rfl) (by first | rfl | omega | (simp; done)) (by rw [EvT.css_length]; omega)))) ?_
      refine OutK.quiet [55, 56, 59] rfl rfl rfl (fun qs_ qv_ ql_ => (.q rfl (QW.call gofn54 (.cons (.tmp rfl) (.cons (.tmp rfl) (.cons (Ev.le (.tmp rfl) (Le.eqv (by rw [← hmm, EvT.css_take]))) .nil))) (addAt hw hmm1 g1)))) ?_
      refine OutK.quiet [60] rfl rfl rfl (fun qs_ qv_ ql_ => (.q rfl (QW.move (.tmp rfl)))) ?_
      refine OutK.quiet [54] rfl rfl rfl (fun qs_ qv_ ql_ => (.q rfl (QW.extract (.tmp rfl) rfl))) ?_
      refine OutK.quiet [54] rfl rfl rfl (fun qs_ qv_ ql_ => (.q rfl (QW.extract (.tmp rfl) rfl))) ?_
      refine OutK.loud [] rfl rfl rfl rfl rfl (fun qs_ qv_ ql_ => by
          obtain rfl : qs_ = [] := List.length_eq_zero_iff.1 ql_
          exact LStepR.alloc (d := 12) z92 rfl) ?_
      refine OutK.store [12, 61] rfl (fun qs_ ow x o h ql_ => by
          obtain ⟨⟨y0, p0⟩, qs_, rfl⟩ : ∃ p t, qs_ = p :: t := by (cases qs_ with | nil => simp at ql_ | cons p t => exact ⟨p, t, rfl⟩)
          obtain rfl : qs_ = [] := List.length_eq_zero_iff.1 (by simpa using ql_)
          exact h.elim fun _ h => h.2.1) rfl rfl rfl (fun qs_ qv_ ql_ => by
          obtain ⟨⟨y0, p0⟩, qs_, rfl⟩ : ∃ p t, qs_ = p :: t := by (cases qs_ with | nil => simp at ql_ | cons p t => exact ⟨p, t, rfl⟩)
          obtain rfl : qs_ = [] := List.length_eq_zero_iff.1 (by simpa using ql_)
          obtain ⟨hr0, _⟩ := qv_
          obtain ⟨b12, rfl, rfl⟩ := hr0
          exact (by refine LStep.toR rfl (own' := List.set _ 2 (.box b12 (x.cs true))) ?_ ⟨_, rfl, rfl, rfl⟩; first | exact LStep.store_boxF 2 ty92 (.tmp rfl) rfl (.tmp rfl) (by first | rfl | assumption) (rfl) (rfl) rfl | exact LStep.store_boxF 2 ty92 (.tmp rfl) rfl (.tmp rfl) (by first | rfl | assumption) (rfl) (by exact BT.cs_length _ _) rfl | exact LStep.store_boxF 2 ty92 (.tmp rfl) rfl (.tmp rfl) (by first | rfl | assumption) (by exact BT.cs_length _ _) (rfl) rfl | exact LStep.store_boxF 2 ty92 (.tmp rfl) rfl (.tmp rfl) (by first | rfl | assumption) (by exact BT.cs_length _ _) (by exact BT.cs_length _ _) rfl | exact LStep.store_box 2 ty92 (.tmp rfl) rfl (.tmp rfl) (by first | rfl | assumption) rfl rfl rfl rfl | exact LStep.store_box 2 ty92 (.tmp rfl) rfl (.tmp rfl) (by first | rfl | assumption) (BT.cs_length _ _) rfl rfl rfl)) ?_
      refine .nil fun qs_ qv_ ql_ => ?_
      obtain ⟨⟨y1, p1⟩, qs_, rfl⟩ : ∃ p t, qs_ = p :: t := by (cases qs_ with | nil => simp at ql_ | cons p t => exact ⟨p, t, rfl⟩)
      simp only [List.length_cons, Nat.add_right_cancel_iff] at ql_
      obtain ⟨⟨y0, p0⟩, qs_, rfl⟩ : ∃ p t, qs_ = p :: t := by (cases qs_ with | nil => simp at ql_ | cons p t => exact ⟨p, t, rfl⟩)
      obtain rfl : qs_ = [] := List.length_eq_zero_iff.1 (by simpa using ql_)
      obtain ⟨hr1, hr0, _⟩ := qv_
      obtain ⟨b12, rfl, rfl⟩ := hr0
      obtain ⟨_, ⟨⟩, rfl, rfl⟩ := hr1
      refine JL.conv (by (try simp only [stepsO, List.map_cons, List.map_nil, valO, nthO, curO, mrg, List.reverse_cons, List.reverse_nil, List.nil_append, List.cons_append, List.append_nil, List.getElem?_cons_zero, List.getElem?_cons_succ, Option.map_some, Option.getD_some, List.set_cons_zero, List.set_cons_succ, AV.cellsOf, splice_zero, splice_succ, Nat.zero_add, Nat.reduceAdd]); rfl) ?_
      refine JL.q rfl rfl rfl (QW.assign (.tmp rfl)) ?_
      refine JL.nil ?_
      refine thenQ.n ?_
      refine J.seq ?_
      refine J.seq ?_
      refine J.region_lit ?_
      refine JL.q rfl rfl rfl (QW.move (.tmp rfl)) ?_
      refine JL.q rfl rfl rfl (QW.call gofn61 (.cons (.tmp rfl) .nil) (num08_ok _)) ?_
      refine JL.q rfl rfl rfl (QW.neq (.tmp rfl) .const) ?_
      refine JL.nil ?_
      refine thenQ.n ?_
      refine J.cond (.tmp rfl) (fun c3 => ?_) (fun c3 => ?_)
      · skip
        skip
        refine J.exit ?_
        refine thenQ.x ?_
        refine blkQ.hit ?_
        refine thenQ.n ?_
        refine J.region_lit ?_
        refine JL.q rfl rfl rfl (QW.move (.tmp rfl)) ?_
        refine JL.q rfl rfl rfl (QW.add (.tmp rfl) .const (by first | exact w64n (by first | rfl | omega | (simp; done)) (by omega) | exact w64 (by omega) | rfl)) ?_
        refine JL.q rfl rfl rfl (QW.assign (.tmp rfl)) ?_
        refine JL.nil ?_
        refine thenQ.n ?_
        exact ⟨⟨j + 1, L2, b, v⟩, ⟨hj2, hb, hw, by omega, by omega⟩, by show 12 - (j + 1) < 12 - j; omega, Wk.re (.cons rfl (.refl _) (.cons rfl (.refl _) (.cons rfl (.refl _) (.cons rfl (.refl _) (.cons rfl (.refl _) (.cons rfl (.refl _) (.cons rfl (.refl _) .nil))))))) (Reown.msk [.p, .p] _ rfl) (fun _ h => by first | exact h | simp [h])⟩
      · skip
        simp at c3
        subst c3
        obtain ⟨rfl, hb2⟩ := hb.inv (by omega) (by omega) (by omega) g1
        have hw2 := add_wfE hw hmm1 g1
        have hbn2 := hb2.ln
        simp only at hbn2
        refine J.skip ?_
        refine thenQ.n ?_
        refine J.seq ?_
        refine J.region_lit ?_
        refine JL.q rfl rfl rfl (by first | exact QW.load_box 2 ty92 (.tmp rfl) rfl rfl rfl | exact QW.load_box 2 ty92 (.tmp rfl) rfl (take_at (BT.cs_length _ _) rfl) (BT.cs_length _ _)) ?_
        first | refine JL.store_boxF 0 ty92 (.tmp rfl) rfl (.tmp rfl) (by first | rfl | assumption) (rfl) (rfl) rfl ?_ | refine JL.store_boxF 0 ty92 (.tmp rfl) rfl (.tmp rfl) (by first | rfl | assumption) (rfl) (BT.cs_length _ _) rfl ?_ | refine JL.store_boxF 0 ty92 (.tmp rfl) rfl (.tmp rfl) (by first | rfl | assumption) (BT.cs_length _ _) (rfl) rfl ?_ | refine JL.store_boxF 0 ty92 (.tmp rfl) rfl (.tmp rfl) (by first | rfl | assumption) (BT.cs_length _ _) (BT.cs_length _ _) rfl ?_ | refine JL.store_box 0 ty92 (.tmp rfl) rfl (.tmp rfl) (by first | rfl | assumption) rfl rfl rfl rfl ?_ | refine JL.store_box 0 ty92 (.tmp rfl) rfl (.tmp rfl) (by first | rfl | assumption) (BT.cs_length _ _) rfl rfl rfl ?_
        refine JL.nil ?_
        refine thenQ.n ?_
        refine J.seq ?_
        refine J.seq ?_
        refine J.region_lit ?_
        refine JL.q rfl rfl rfl (QW.assign .const) ?_
        refine JL.nil ?_
        refine thenQ.n ?_
        refine J.block ?_
        refine J.loopK (ι := Nat × Value) [0, 1, 2, 7, 9, 10, 11, 12, 13, 29, 30, 31, 32, 33, 34, 35, 36, 39, 40, 41, 42, 43, 44, 45, 46, 47, 48, 49, 50, 51, 52, 53, 54, 55, 56, 57, 58, 59, 60, 61, 62, 63, 64, 65, 66] (fun ⟨i, v⟩ => [(14, .c (.int .i64 (i : Int))), (8, .c v)]) (fun ⟨i, v⟩ oo => List.set oo 1 (.arr v eI64 (idsAV (b.items ++ numIt (L2 : Int) 0 (mm.take i))))) (fun ⟨i, v⟩ => i ≤ nn) (fun ⟨i, v⟩ => nn - i) ⟨0, v⟩ (Nat.zero_le _) (Wk.re (.cons rfl (.refl _) (.cons rfl (.refl _) (.cons rfl (.refl _) (.cons rfl (.refl _) (.cons rfl (.refl _) (.cons rfl (.refl _) (.cons rfl (.refl _) (.cons rfl (.refl _) (.cons rfl (.refl _) (.cons rfl (.refl _) (.cons rfl (.refl _) (.cons rfl (.refl _) (.cons rfl (.refl _) (.cons rfl (.refl _) (.cons rfl (.refl _) (.cons rfl (.refl _) (.cons rfl (.refl _) (.cons rfl (.refl _) (.cons rfl (.refl _) (.cons rfl (.refl _) (.cons rfl (.refl _) (.cons rfl (.refl _) (.cons rfl (.refl _) (.cons rfl (.refl _) (.cons rfl (.refl _) (.cons rfl (.refl _) (.cons rfl (.refl _) (.cons rfl (.refl _) (.cons rfl (.refl _) (.cons rfl (.refl _) (.cons rfl (.refl _) (.cons rfl (.refl _) (.cons rfl (.refl _) (.cons rfl (.refl _) (.cons rfl (.refl _) (.cons rfl (.refl _) (.cons rfl (.refl _) (.cons rfl (.refl _) (.cons rfl (.refl _) (.cons rfl (.refl _) (.cons rfl (.refl _) (.cons rfl (.refl _) (.cons rfl (.refl _) (.cons rfl (.refl _) (.cons rfl (.refl _) (.cons rfl (.refl _) (.cons rfl (.refl _) .nil))))))))))))))))))))))))))))))))))))))))))))))) (Reown.ofEq (by simp [numIt])) (fun _ h => by first | exact h | simp [h])) ?_
        intro ⟨i, v⟩ hi
        refine J.conv (by (try simp only [stepsO, List.map_cons, List.map_nil, valO, nthO, curO, mrg, List.reverse_cons, List.reverse_nil, List.nil_append, List.cons_append, List.append_nil, List.getElem?_cons_zero, List.getElem?_cons_succ, Option.map_some, Option.getD_some, List.set_cons_zero, List.set_cons_succ, AV.cellsOf, splice_zero, splice_succ, Nat.zero_add, Nat.reduceAdd]); rfl) ?_
        refine J.seq ?_
        refine J.seq ?_
        refine J.region_lit ?_
        refine JL.q rfl rfl rfl (QW.move (.tmp rfl)) ?_
        refine JL.q rfl rfl rfl (QW.move (.tmp rfl)) ?_
        refine JL.q rfl rfl rfl (QW.lss (.tmp rfl) (.tmp rfl)) ?_
        refine JL.nil ?_
        refine thenQ.n ?_
        refine J.cond (.tmp rfl) (fun c4 => ?_) (fun c4 => ?_)
        · skip
          have hi2 : i < mm.length := by (simp at c4; omega)
          refine J.skip ?_
          refine thenQ.n ?_
          refine J.seq ?_
          refine J.block ?_
          refine J.region_lit ?_
          refine JL.q rfl rfl rfl (QW.move (.tmp rfl)) ?_
          refine JL.q rfl rfl rfl (QW.move (.tmp rfl)) ?_
          refine JL.q rfl rfl rfl (QW.mul .const (.tmp rfl) (by first | exact w64n (by first | rfl | omega | (simp; done)) (by omega) | exact w64 (by omega) | rfl)) ?_
          refine JL.q rfl rfl rfl (QW.move (.tmp rfl)) ?_
          refine JL.q rfl rfl rfl (QW.add (.tmp rfl) (.tmp rfl) (by first | exact w64n (by first | rfl | omega | (simp; done)) (by omega) | exact w64 (by omega) | rfl)) ?_
          refine JL.q rfl rfl rfl (QW.buildSlice (idx := [0]) (xs := [[.c (.int .i64 (32 * (L2 : Int) + (i : Int)))]]) sl66 el3 z3 rfl (.cons (.tmp rfl) .nil) rfl rfl rfl rfl rfl (by exact fill_one (e := eI64) (z := [.c (.int .i64 (32 * (L2 : Int) + (i : Int)))]) rfl) rfl (all_one (e := eI64) (z := [.c (.int .i64 (32 * (L2 : Int) + (i : Int)))]) rfl) rfl) ?_
          refine JL.append 1 sl66 el3 rfl (.tmp rfl) rfl (srcA_sl sl66 (.tmp rfl)) (by rw [idsAV_length, List.length_append, numIt_length, List.length_take]; simp; unfold reach; omega) rfl fun v78 => ?_
          refine JL.q rfl rfl rfl (QW.assign (.tmp rfl)) ?_
          refine JL.nil ?_
          refine blkQ.n ?_
          refine thenQ.n ?_
          refine J.region_lit ?_
          refine JL.q rfl rfl rfl (QW.move (.tmp rfl)) ?_
          refine JL.q rfl rfl rfl (QW.add (.tmp rfl) .const (by first | exact w64n (by first | rfl | omega | (simp; done)) (by omega) | exact w64 (by omega) | rfl)) ?_
          refine JL.q rfl rfl rfl (QW.assign (.tmp rfl)) ?_
          refine JL.nil ?_
          refine thenQ.n ?_
          exact ⟨⟨i + 1, v78⟩, by omega, by show nn - (i + 1) < nn - i; omega, Wk.re (.cons rfl (.refl _) (.cons rfl (.refl _) (.cons rfl (.refl _) (.cons rfl (.refl _) (.cons rfl (.refl _) (.cons rfl (.refl _) (.cons rfl (.refl _) (.cons rfl (.refl _) (.cons rfl (.refl _) (.cons rfl (.refl _) (.cons rfl (.refl _) (.cons rfl (.refl _) (.cons rfl (.refl _) (.cons rfl (.refl _) (.cons rfl (.refl _) (.cons rfl (.refl _) (.cons rfl (.refl _) (.cons rfl (.refl _) (.cons rfl (.refl _) (.cons rfl (.refl _) (.cons rfl (.refl _) (.cons rfl (.refl _) (.cons rfl (.refl _) (.cons rfl (.refl _) (.cons rfl (.refl _) (.cons rfl (.refl _) (.cons rfl (.refl _) (.cons rfl (.refl _) (.cons rfl (.refl _) (.cons rfl (.refl _) (.cons rfl (.refl _) (.cons rfl (.refl _) (.cons rfl (.refl _) (.cons rfl (.refl _) (.cons rfl (.refl _) (.cons rfl (.refl _) (.cons rfl (.refl _) (.cons rfl (.refl _) (.cons rfl (.refl _) (.cons rfl (.refl _) (.cons rfl (.refl _) (.cons rfl (.refl _) (.cons rfl (.refl _) (.cons rfl (.refl _) (.cons rfl (.refl _) (.cons rfl (.refl _) (.cons rfl (.refl _) .nil))))))))))))))))))))))))))))))))))))))))))))))) (Reown.ofEq (by show [_, Own.arr v78 eI64 _, _] = [_, Own.arr v78 eI64 (idsAV _), _]; rw [numIt_take hi2, ← List.append_assoc, ← idsAV_snoc]; rfl)) (fun _ h => by first | exact h | simp [h])⟩
        · skip
          obtain rfl : i = mm.length := by (simp at c4; omega)
          rw [List.take_length]
          refine J.exit ?_
          refine thenQ.x ?_
          refine thenQ.x ?_
          refine blkQ.hit ?_
          refine thenQ.n ?_
          refine J.seq ?_
          refine J.region_lit ?_
          refine JL.q rfl rfl rfl (QW.move (.tmp rfl)) ?_
          refine JL.q rfl rfl rfl (QW.move (.tmp rfl)) ?_
          refine JL.q rfl rfl rfl (by first | exact QW.len_slE sl66 (.tmp rfl) (ItT.css_length _ _) | exact QW.len_slE sl66 (.tmp rfl) (EvT.css_length _ _) | exact QW.len_slE sl66 (.tmp rfl) (intsAV_length _) | exact QW.len_sl sl66 (.tmp rfl) | exact QW.len_nil sl66 (.tmp rfl)) ?_
          refine JL.q rfl rfl rfl (QW.lss (.tmp rfl) (.tmp rfl)) ?_
          refine JL.q rfl rfl rfl (QW.move (.tmp rfl)) ?_
          refine JL.g rfl rfl rfl rfl rfl (fun hg => (QW.move (.tmp rfl))) ?_
          refine JL.g rfl rfl rfl rfl rfl (fun hg => (QW.len_arr 1 sl66 (.when rfl hg) rfl)) ?_
          refine JL.g rfl rfl rfl rfl rfl (fun hg => (QW.gtr (.when rfl hg) .const)) ?_
          refine JL.q rfl rfl rfl (QW.pick_and (.tmp rfl) (.tmp rfl)) ?_
          refine JL.nil ?_
          refine thenQ.n ?_
          refine J.cond (.tmp rfl) (fun c5 => ?_) (fun c5 => ?_)
          · skip
            have hj3 : j < aa.length := by (simp [intsAV_length] at c5; omega)
            obtain ⟨N, hN⟩ : ∃ N, (b.items ++ numIt (L2 : Int) 0 mm).length = N := ⟨_, rfl⟩
            have h0 : 0 < N := by (simp only [Bool.and_eq_true, decide_eq_true_eq, idsAV_length, hN] at c5; omega)
            have hNI : (N : Int) ≠ 0 := by omega
            have hab1 := hab _ (List.getElem_mem hj3)
            have u1 := tmod_b (aa[j]'hj3) N h0
            have u2 := tmod_nn (n := (aa[j]'hj3).tmod N + N) N (by omega)
            have u3 := tmod_b ((aa[j]'hj3).tmod N + N) N h0
            obtain ⟨att, hat⟩ : ∃ att : Nat, ((aa[j]'hj3).tmod N + N).tmod N = (att : Int) := ⟨(((aa[j]'hj3).tmod N + N).tmod N).toNat, by omega⟩
            have hat1 : att < (b.items ++ numIt (L2 : Int) 0 mm).length := by omega
            have hw3 := ack_wfE hw2 (hb2.ack hat1)
            refine J.seq ?_
            refine J.region_lit ?_
            refine JL.q rfl rfl rfl (QW.move (.tmp rfl)) ?_
            refine JL.q rfl rfl rfl (QW.move (.tmp rfl)) ?_
            refine JL.q rfl rfl rfl (QW.index_sl sl66 ty3 rfl (.tmp rfl) (.tmp rfl) (by first | rfl | omega | (simp; done)) (by exact intsAV_getE hj3)) ?_
            refine JL.q rfl rfl rfl (QW.load_ref1 ty3 (.tmp rfl) rfl) ?_
            refine JL.q rfl rfl rfl (QW.move (.tmp rfl)) ?_
            refine JL.q rfl rfl rfl (QW.conv (QW.len_arr 1 sl66 (.tmp rfl) rfl) (by rw [idsAV_length, hN])) ?_
            refine JL.q rfl rfl rfl (QW.rem (.tmp rfl) (.tmp rfl) hNI rfl) ?_
            refine JL.q rfl rfl rfl (QW.move (.tmp rfl)) ?_
            refine JL.q rfl rfl rfl (QW.conv (QW.len_arr 1 sl66 (.tmp rfl) rfl) (by rw [idsAV_length, hN])) ?_
            refine JL.q rfl rfl rfl (QW.add (.tmp rfl) (.tmp rfl) (w64 (by omega))) ?_
            refine JL.q rfl rfl rfl (QW.move (.tmp rfl)) ?_
            refine JL.q rfl rfl rfl (QW.conv (QW.len_arr 1 sl66 (.tmp rfl) rfl) (by rw [idsAV_length, hN])) ?_
            refine JL.q rfl rfl rfl (QW.rem (.tmp rfl) (.tmp rfl) hNI hat) ?_
            refine JL.q rfl rfl rfl (QW.assign (.tmp rfl)) ?_
            refine JL.nil ?_
            refine thenQ.n ?_
            refine J.seq ?_
            refine J.region_outK 13 2 (fun os_ ow_ x_ o_ => match os_ with | [] => (∃ b_, x_ = .c (.pointer (some ⟨b_, 0, none⟩)) ∧ o_ = ow_ ++ [.box b_ ([.int .i64 0, .slice none 0 0].map AV.c)]) | [(x0_, _)] => (∃ b_, x0_ = .c (.pointer (some ⟨b_, 0, none⟩)) ∧ x_ = .c undef ∧ o_ = ow_.set 3 (.box b_ ((BT.mk L2 ((b.items ++ numIt (L2 : Int) 0 mm).eraseIdx att)).cs true))) | _ => False) mixed (by kernel_rfl) (by kernel_rfl) (by kernel_rfl) rfl ?_
            refine OutK.quiet [] rfl rfl rfl (fun qs_ qv_ ql_ => by
                rcases qs_ with _ | ⟨⟨y0, p0⟩, qs_⟩
                · skip
                  exact (.q rfl (by first | exact QW.load_box 0 ty92 (.tmp rfl) rfl rfl rfl | exact QW.load_box 0 ty92 (.tmp rfl) rfl (take_at (BT.cs_length _ _) rfl) (BT.cs_length _ _)))
                rcases qs_ with _ | ⟨⟨y1, p1⟩, qs_⟩
                · skip
                  obtain ⟨hr0, _⟩ := qv_
                  obtain ⟨b16, rfl, rfl⟩ := hr0
                  exact (.q rfl (by first | exact QW.load_box 0 ty92 (.tmp rfl) rfl rfl rfl | exact QW.load_box 0 ty92 (.tmp rfl) rfl (take_at (BT.cs_length _ _) rfl) (BT.cs_length _ _)))
                rcases qs_ with _ | ⟨⟨y2, p2⟩, qs_⟩
                · skip
                  obtain ⟨hr1, hr0, _⟩ := qv_
                  obtain ⟨b16, rfl, rfl⟩ := hr0
                  obtain ⟨_, ⟨⟩, rfl, rfl⟩ := hr1
                  exact (.q rfl (by first | exact QW.load_box 0 ty92 (.tmp rfl) rfl rfl rfl | exact QW.load_box 0 ty92 (.tmp rfl) rfl (take_at (BT.cs_length _ _) rfl) (BT.cs_length _ _)))
                exact absurd ql_ (by simp)) ?_
            refine OutK.quiet [] rfl rfl rfl (fun qs_ qv_ ql_ => (.q rfl (QW.move (.tmp rfl)))) ?_
            refine OutK.quiet [] rfl rfl rfl (fun qs_ qv_ ql_ => (.q rfl (QW.move (.tmp rfl)))) ?_
            refine OutK.quiet [103, 104] rfl rfl rfl (fun qs_ qv_ ql_ => by
                rcases qs_ with _ | ⟨⟨y0, p0⟩, qs_⟩
                · skip
                  exact (.q rfl (QW.index_arr 1 sl66 ty3 rfl (.tmp rfl) rfl (.tmp rfl) (by first | rfl | omega | (simp; done)) (by rw [idsAV_length]; omega) rfl))
                rcases qs_ with _ | ⟨⟨y1, p1⟩, qs_⟩
                · skip
                  obtain ⟨hr0, _⟩ := qv_
                  obtain ⟨b16, rfl, rfl⟩ := hr0
                  exact (.q rfl (QW.index_arr 1 sl66 ty3 rfl (.tmp rfl) rfl (.tmp rfl) (by first | rfl | omega | (simp; done)) (by rw [idsAV_length]; omega) rfl))
                rcases qs_ with _ | ⟨⟨y2, p2⟩, qs_⟩
                · skip
                  obtain ⟨hr1, hr0, _⟩ := qv_
                  obtain ⟨b16, rfl, rfl⟩ := hr0
                  obtain ⟨_, ⟨⟩, rfl, rfl⟩ := hr1
                  exact (.q rfl (QW.index_arr 1 sl66 ty3 rfl (.tmp rfl) rfl (.tmp rfl) (by first | rfl | omega | (simp; done)) (by rw [idsAV_length]; omega) rfl))
                exact absurd ql_ (by simp)) ?_
            refine OutK.quiet [105] rfl rfl rfl (fun qs_ qv_ ql_ => by
                rcases qs_ with _ | ⟨⟨y0, p0⟩, qs_⟩
                · skip
                  exact (.q rfl (by first | exact QW.load_gp1 (o := 0) 1 ty3 (.tmp rfl) rfl (by exact idsAV_at hat1) rfl rfl | exact QW.load_gp1 1 ty3 (.tmp rfl) rfl (by exact idsAV_at hat1) rfl rfl))
                rcases qs_ with _ | ⟨⟨y1, p1⟩, qs_⟩
                · skip
                  obtain ⟨hr0, _⟩ := qv_
                  obtain ⟨b16, rfl, rfl⟩ := hr0
                  exact (.q rfl (by first | exact QW.load_gp1 (o := 0) 1 ty3 (.tmp rfl) rfl (by exact idsAV_at hat1) rfl rfl | exact QW.load_gp1 1 ty3 (.tmp rfl) rfl (by exact idsAV_at hat1) rfl rfl))
                rcases qs_ with _ | ⟨⟨y2, p2⟩, qs_⟩
                · skip
                  obtain ⟨hr1, hr0, _⟩ := qv_
                  obtain ⟨b16, rfl, rfl⟩ := hr0
                  obtain ⟨_, ⟨⟩, rfl, rfl⟩ := hr1
                  exact (.q rfl (by first | exact QW.load_gp1 (o := 0) 1 ty3 (.tmp rfl) rfl (by exact idsAV_at hat1) rfl rfl | exact QW.load_gp1 1 ty3 (.tmp rfl) rfl (by exact idsAV_at hat1) rfl rfl))
                exact absurd ql_ (by simp)) ?_
            refine OutK.quiet [102, 106] rfl rfl rfl (fun qs_ qv_ ql_ => (.q rfl (QW.call gofn56 (.cons (.tmp rfl) (.cons (.tmp rfl) .nil)) (ackAt hw2 (hb2.ack hat1))))) ?_
            refine OutK.quiet [107] rfl rfl rfl (fun qs_ qv_ ql_ => (.q rfl (QW.move (.tmp rfl)))) ?_
            refine OutK.quiet [101] rfl rfl rfl (fun qs_ qv_ ql_ => (.q rfl (QW.extract (.tmp rfl) rfl))) ?_
            refine OutK.quiet [101] rfl rfl rfl (fun qs_ qv_ ql_ => (.q rfl (QW.extract (.tmp rfl) rfl))) ?_
            refine OutK.quiet [101] rfl rfl rfl (fun qs_ qv_ ql_ => (.q rfl (QW.extract (.tmp rfl) rfl))) ?_
            refine OutK.loud [] rfl rfl rfl rfl rfl (fun qs_ qv_ ql_ => by
                obtain rfl : qs_ = [] := List.length_eq_zero_iff.1 ql_
                exact LStepR.alloc (d := 16) z92 rfl) ?_
            refine OutK.store [16, 108] rfl (fun qs_ ow x o h ql_ => by
                obtain ⟨⟨y0, p0⟩, qs_, rfl⟩ : ∃ p t, qs_ = p :: t := by (cases qs_ with | nil => simp at ql_ | cons p t => exact ⟨p, t, rfl⟩)
                obtain rfl : qs_ = [] := List.length_eq_zero_iff.1 (by simpa using ql_)
                exact h.elim fun _ h => h.2.1) rfl rfl rfl (fun qs_ qv_ ql_ => by
                obtain ⟨⟨y0, p0⟩, qs_, rfl⟩ : ∃ p t, qs_ = p :: t := by (cases qs_ with | nil => simp at ql_ | cons p t => exact ⟨p, t, rfl⟩)
                obtain rfl : qs_ = [] := List.length_eq_zero_iff.1 (by simpa using ql_)
                obtain ⟨hr0, _⟩ := qv_
                obtain ⟨b16, rfl, rfl⟩ := hr0
                exact (by refine LStep.toR rfl (own' := List.set _ 3 (.box b16 ((BT.mk L2 ((b.items ++ numIt (L2 : Int) 0 mm).eraseIdx att)).cs true))) ?_ ⟨_, rfl, rfl, rfl⟩; first | exact LStep.store_boxF 3 ty92 (.tmp rfl) rfl (.tmp rfl) (by first | rfl | assumption) (rfl) (rfl) rfl | exact LStep.store_boxF 3 ty92 (.tmp rfl) rfl (.tmp rfl) (by first | rfl | assumption) (rfl) (by exact BT.cs_length _ _) rfl | exact LStep.store_boxF 3 ty92 (.tmp rfl) rfl (.tmp rfl) (by first | rfl | assumption) (by exact BT.cs_length _ _) (rfl) rfl | exact LStep.store_boxF 3 ty92 (.tmp rfl) rfl (.tmp rfl) (by first | rfl | assumption) (by exact BT.cs_length _ _) (by exact BT.cs_length _ _) rfl | exact LStep.store_box 3 ty92 (.tmp rfl) rfl (.tmp rfl) (by first | rfl | assumption) rfl rfl rfl rfl | exact LStep.store_box 3 ty92 (.tmp rfl) rfl (.tmp rfl) (by first | rfl | assumption) (BT.cs_length _ _) rfl rfl rfl)) ?_
            refine OutK.quiet [109] rfl rfl rfl (fun qs_ qv_ ql_ => (.q rfl (QW.assign (.tmp rfl)))) ?_
            refine .nil fun qs_ qv_ ql_ => ?_
            obtain ⟨⟨y1, p1⟩, qs_, rfl⟩ : ∃ p t, qs_ = p :: t := by (cases qs_ with | nil => simp at ql_ | cons p t => exact ⟨p, t, rfl⟩)
            simp only [List.length_cons, Nat.add_right_cancel_iff] at ql_
            obtain ⟨⟨y0, p0⟩, qs_, rfl⟩ : ∃ p t, qs_ = p :: t := by (cases qs_ with | nil => simp at ql_ | cons p t => exact ⟨p, t, rfl⟩)
            obtain rfl : qs_ = [] := List.length_eq_zero_iff.1 (by simpa using ql_)
            obtain ⟨hr1, hr0, _⟩ := qv_
            obtain ⟨b16, rfl, rfl⟩ := hr0
            obtain ⟨_, ⟨⟩, rfl, rfl⟩ := hr1
            refine JL.conv (by (try simp only [stepsO, List.map_cons, List.map_nil, valO, nthO, curO, mrg, List.reverse_cons, List.reverse_nil, List.nil_append, List.cons_append, List.append_nil, List.getElem?_cons_zero, List.getElem?_cons_succ, Option.map_some, Option.getD_some, List.set_cons_zero, List.set_cons_succ, AV.cellsOf, splice_zero, splice_succ, Nat.zero_add, Nat.reduceAdd]); rfl) ?_
            refine JL.q rfl rfl rfl (QW.assign (.tmp rfl)) ?_
            refine JL.nil ?_
            refine thenQ.n ?_
            refine J.seq ?_
            refine J.region_outK 13 2 (fun os_ ow_ x_ o_ => match os_ with | [] => (∃ b_, x_ = .c (.pointer (some ⟨b_, 0, none⟩)) ∧ o_ = ow_ ++ [.box b_ ([.int .i64 0, .slice none 0 0].map AV.c)]) | [(x0_, _)] => (∃ b_, x0_ = .c (.pointer (some ⟨b_, 0, none⟩)) ∧ x_ = .c undef ∧ o_ = ow_.set 4 (.box b_ ((BT.mk L2 ((b.items ++ numIt (L2 : Int) 0 mm).eraseIdx att)).cs true))) | _ => False) mixed (by kernel_rfl) (by kernel_rfl) (by kernel_rfl) rfl ?_
            refine OutK.quiet [] rfl rfl rfl (fun qs_ qv_ ql_ => by
                rcases qs_ with _ | ⟨⟨y0, p0⟩, qs_⟩
                · skip
                  exact (.q rfl (by first | exact QW.load_box 3 ty92 (.tmp rfl) rfl rfl rfl | exact QW.load_box 3 ty92 (.tmp rfl) rfl (take_at (BT.cs_length _ _) rfl) (BT.cs_length _ _)))
                rcases qs_ with _ | ⟨⟨y1, p1⟩, qs_⟩
                · skip
                  obtain ⟨hr0, _⟩ := qv_
                  obtain ⟨b19, rfl, rfl⟩ := hr0
                  exact (.q rfl (by first | exact QW.load_box 3 ty92 (.tmp rfl) rfl rfl rfl | exact QW.load_box 3 ty92 (.tmp rfl) rfl (take_at (BT.cs_length _ _) rfl) (BT.cs_length _ _)))
                rcases qs_ with _ | ⟨⟨y2, p2⟩, qs_⟩
                · skip
                  obtain ⟨hr1, hr0, _⟩ := qv_
                  obtain ⟨b19, rfl, rfl⟩ := hr0
                  obtain ⟨_, ⟨⟩, rfl, rfl⟩ := hr1
                  exact (.q rfl (by first | exact QW.load_box 3 ty92 (.tmp rfl) rfl rfl rfl | exact QW.load_box 3 ty92 (.tmp rfl) rfl (take_at (BT.cs_length _ _) rfl) (BT.cs_length _ _)))
                exact absurd ql_ (by simp)) ?_
            refine OutK.quiet [] rfl rfl rfl (fun qs_ qv_ ql_ => (.q rfl (QW.move (.tmp rfl)))) ?_
            refine OutK.quiet [] rfl rfl rfl (fun qs_ qv_ ql_ => (.q rfl (QW.move (.tmp rfl)))) ?_
            refine OutK.quiet [113, 114] rfl rfl rfl (fun qs_ qv_ ql_ => by
                rcases qs_ with _ | ⟨⟨y0, p0⟩, qs_⟩
                · skip
                  exact (.q rfl (QW.index_arr 1 sl66 ty3 rfl (.tmp rfl) rfl (.tmp rfl) (by first | rfl | omega | (simp; done)) (by rw [idsAV_length]; omega) rfl))
                rcases qs_ with _ | ⟨⟨y1, p1⟩, qs_⟩
                · skip
                  obtain ⟨hr0, _⟩ := qv_
                  obtain ⟨b19, rfl, rfl⟩ := hr0
                  exact (.q rfl (QW.index_arr 1 sl66 ty3 rfl (.tmp rfl) rfl (.tmp rfl) (by first | rfl | omega | (simp; done)) (by rw [idsAV_length]; omega) rfl))
                rcases qs_ with _ | ⟨⟨y2, p2⟩, qs_⟩
                · skip
                  obtain ⟨hr1, hr0, _⟩ := qv_
                  obtain ⟨b19, rfl, rfl⟩ := hr0
                  obtain ⟨_, ⟨⟩, rfl, rfl⟩ := hr1
                  exact (.q rfl (QW.index_arr 1 sl66 ty3 rfl (.tmp rfl) rfl (.tmp rfl) (by first | rfl | omega | (simp; done)) (by rw [idsAV_length]; omega) rfl))
                exact absurd ql_ (by simp)) ?_
            refine OutK.quiet [115] rfl rfl rfl (fun qs_ qv_ ql_ => by
                rcases qs_ with _ | ⟨⟨y0, p0⟩, qs_⟩
                · skip
                  exact (.q rfl (by first | exact QW.load_gp1 (o := 0) 1 ty3 (.tmp rfl) rfl (by exact idsAV_at hat1) rfl rfl | exact QW.load_gp1 1 ty3 (.tmp rfl) rfl (by exact idsAV_at hat1) rfl rfl))
                rcases qs_ with _ | ⟨⟨y1, p1⟩, qs_⟩
                · skip
                  obtain ⟨hr0, _⟩ := qv_
                  obtain ⟨b19, rfl, rfl⟩ := hr0
                  exact (.q rfl (by first | exact QW.load_gp1 (o := 0) 1 ty3 (.tmp rfl) rfl (by exact idsAV_at hat1) rfl rfl | exact QW.load_gp1 1 ty3 (.tmp rfl) rfl (by exact idsAV_at hat1) rfl rfl))
                rcases qs_ with _ | ⟨⟨y2, p2⟩, qs_⟩
                · skip
                  obtain ⟨hr1, hr0, _⟩ := qv_
                  obtain ⟨b19, rfl, rfl⟩ := hr0
                  obtain ⟨_, ⟨⟩, rfl, rfl⟩ := hr1
                  exact (.q rfl (by first | exact QW.load_gp1 (o := 0) 1 ty3 (.tmp rfl) rfl (by exact idsAV_at hat1) rfl rfl | exact QW.load_gp1 1 ty3 (.tmp rfl) rfl (by exact idsAV_at hat1) rfl rfl))
                exact absurd ql_ (by simp)) ?_
            refine OutK.quiet [112, 116] rfl rfl rfl (fun qs_ qv_ ql_ => (.q rfl (QW.call gofn56 (.cons (.tmp rfl) (.cons (.tmp rfl) .nil)) (ackAt hw3 (hb2.ack2 hat1))))) ?_
            refine OutK.quiet [117] rfl rfl rfl (fun qs_ qv_ ql_ => (.q rfl (QW.move (.tmp rfl)))) ?_
            refine OutK.quiet [111] rfl rfl rfl (fun qs_ qv_ ql_ => (.q rfl (QW.extract (.tmp rfl) rfl))) ?_
            refine OutK.quiet [111] rfl rfl rfl (fun qs_ qv_ ql_ => (.q rfl (QW.extract (.tmp rfl) rfl))) ?_
            refine OutK.quiet [111] rfl rfl rfl (fun qs_ qv_ ql_ => (.q rfl (QW.extract (.tmp rfl) rfl))) ?_
            refine OutK.loud [] rfl rfl rfl rfl rfl (fun qs_ qv_ ql_ => by
                obtain rfl : qs_ = [] := List.length_eq_zero_iff.1 ql_
                exact LStepR.alloc (d := 19) z92 rfl) ?_
            refine OutK.store [19, 118] rfl (fun qs_ ow x o h ql_ => by
                obtain ⟨⟨y0, p0⟩, qs_, rfl⟩ : ∃ p t, qs_ = p :: t := by (cases qs_ with | nil => simp at ql_ | cons p t => exact ⟨p, t, rfl⟩)
                obtain rfl : qs_ = [] := List.length_eq_zero_iff.1 (by simpa using ql_)
                exact h.elim fun _ h => h.2.1) rfl rfl rfl (fun qs_ qv_ ql_ => by
                obtain ⟨⟨y0, p0⟩, qs_, rfl⟩ : ∃ p t, qs_ = p :: t := by (cases qs_ with | nil => simp at ql_ | cons p t => exact ⟨p, t, rfl⟩)
                obtain rfl : qs_ = [] := List.length_eq_zero_iff.1 (by simpa using ql_)
                obtain ⟨hr0, _⟩ := qv_
                obtain ⟨b19, rfl, rfl⟩ := hr0
                exact (by refine LStep.toR rfl (own' := List.set _ 4 (.box b19 ((BT.mk L2 ((b.items ++ numIt (L2 : Int) 0 mm).eraseIdx att)).cs true))) ?_ ⟨_, rfl, rfl, rfl⟩; first | exact LStep.store_boxF 4 ty92 (.tmp rfl) rfl (.tmp rfl) (by first | rfl | assumption) (rfl) (rfl) rfl | exact LStep.store_boxF 4 ty92 (.tmp rfl) rfl (.tmp rfl) (by first | rfl | assumption) (rfl) (by exact BT.cs_length _ _) rfl | exact LStep.store_boxF 4 ty92 (.tmp rfl) rfl (.tmp rfl) (by first | rfl | assumption) (by exact BT.cs_length _ _) (rfl) rfl | exact LStep.store_boxF 4 ty92 (.tmp rfl) rfl (.tmp rfl) (by first | rfl | assumption) (by exact BT.cs_length _ _) (by exact BT.cs_length _ _) rfl | exact LStep.store_box 4 ty92 (.tmp rfl) rfl (.tmp rfl) (by first | rfl | assumption) rfl rfl rfl rfl | exact LStep.store_box 4 ty92 (.tmp rfl) rfl (.tmp rfl) (by first | rfl | assumption) (BT.cs_length _ _) rfl rfl rfl)) ?_
            refine OutK.quiet [119] rfl rfl rfl (fun qs_ qv_ ql_ => (.q rfl (QW.assign (.tmp rfl)))) ?_
            refine .nil fun qs_ qv_ ql_ => ?_
            obtain ⟨⟨y1, p1⟩, qs_, rfl⟩ : ∃ p t, qs_ = p :: t := by (cases qs_ with | nil => simp at ql_ | cons p t => exact ⟨p, t, rfl⟩)
            simp only [List.length_cons, Nat.add_right_cancel_iff] at ql_
            obtain ⟨⟨y0, p0⟩, qs_, rfl⟩ : ∃ p t, qs_ = p :: t := by (cases qs_ with | nil => simp at ql_ | cons p t => exact ⟨p, t, rfl⟩)
            obtain rfl : qs_ = [] := List.length_eq_zero_iff.1 (by simpa using ql_)
            obtain ⟨hr1, hr0, _⟩ := qv_
            obtain ⟨b19, rfl, rfl⟩ := hr0
            obtain ⟨_, ⟨⟩, rfl, rfl⟩ := hr1
            refine JL.conv (by (try simp only [stepsO, List.map_cons, List.map_nil, valO, nthO, curO, mrg, List.reverse_cons, List.reverse_nil, List.nil_append, List.cons_append, List.append_nil, List.getElem?_cons_zero, List.getElem?_cons_succ, Option.map_some, Option.getD_some, List.set_cons_zero, List.set_cons_succ, AV.cellsOf, splice_zero, splice_succ, Nat.zero_add, Nat.reduceAdd]); rfl) ?_
            refine JL.q rfl rfl rfl (QW.assign (.tmp rfl)) ?_
            refine JL.nil ?_
            refine thenQ.n ?_
            refine J.seq ?_
            refine J.seq ?_
            refine J.region_lit ?_
            refine JL.q rfl rfl rfl (QW.move (.tmp rfl)) ?_
            refine JL.q rfl rfl rfl (QW.call gofn61 (.cons (.tmp rfl) .nil) (num08_ok _)) ?_
            refine JL.q rfl rfl rfl (QW.move (.tmp rfl)) ?_
            refine JL.q rfl rfl rfl (QW.call gofn61 (.cons (.tmp rfl) .nil) (num08_ok _)) ?_
            refine JL.q rfl rfl rfl (QW.add (.tmp rfl) (.tmp rfl) (by first | exact w64n (by first | rfl | omega | (simp; done)) (by omega) | exact w64 (by omega) | rfl)) ?_
            refine JL.q rfl rfl rfl (QW.neq (.tmp rfl) .const) ?_
            refine JL.q rfl rfl rfl (QW.move (.tmp rfl)) ?_
            refine JL.g rfl rfl rfl rfl rfl (fun hg => (QW.move (.tmp rfl))) ?_
            refine JL.g rfl rfl rfl rfl rfl (fun hg => (QW.not (.when rfl hg))) ?_
            refine JL.q rfl rfl rfl (QW.pick_or (.tmp rfl) (.tmp rfl)) ?_
            refine JL.q rfl rfl rfl (QW.move (.tmp rfl)) ?_
            refine JL.g rfl rfl rfl rfl rfl (fun hg => (QW.move (.tmp rfl))) ?_
            refine JL.q rfl rfl rfl (QW.pick_or (.tmp rfl) (.tmp rfl)) ?_
            refine JL.q rfl rfl rfl (QW.move (.tmp rfl)) ?_
            refine JL.g rfl rfl rfl rfl rfl (fun hg => (QW.field_ptr fo92_1 (.tmp rfl) rfl)) ?_
            refine JL.g rfl rfl rfl rfl rfl (fun hg => (QW.load_box1 4 ty88 (.when rfl hg) rfl rfl)) ?_
            refine JL.g rfl rfl rfl rfl rfl (fun hg => (by first | exact QW.len_slE sl88 (.when rfl hg) (ItT.css_length _ _) | exact QW.len_slE sl88 (.when rfl hg) (EvT.css_length _ _) | exact QW.len_slE sl88 (.when rfl hg) (intsAV_length _) | exact QW.len_sl sl88 (.when rfl hg) | exact QW.len_nil sl88 (.when rfl hg))) ?_
            refine JL.g rfl rfl rfl rfl rfl (fun hg => (QW.field_ptr fo92_1 (.tmp rfl) rfl)) ?_
            refine JL.g rfl rfl rfl rfl rfl (fun hg => (QW.load_box1 3 ty88 (.when rfl hg) rfl rfl)) ?_
            refine JL.g rfl rfl rfl rfl rfl (fun hg => (by first | exact QW.len_slE sl88 (.when rfl hg) (ItT.css_length _ _) | exact QW.len_slE sl88 (.when rfl hg) (EvT.css_length _ _) | exact QW.len_slE sl88 (.when rfl hg) (intsAV_length _) | exact QW.len_sl sl88 (.when rfl hg) | exact QW.len_nil sl88 (.when rfl hg))) ?_
            refine JL.g rfl rfl rfl rfl rfl (fun hg => (QW.neq (.when rfl hg) (.when rfl hg))) ?_
            refine JL.q rfl rfl rfl (QW.pick_or (.tmp rfl) (.tmp rfl)) ?_
            refine JL.nil ?_
            refine thenQ.n ?_
            refine J.cond (.tmp rfl) (fun c6 => ?_) (fun c6 => ?_)
            · skip
              exact absurd c6 (by simp)
              --closed
            · skip
              skip
              refine J.skip ?_
              refine thenQ.n ?_
              refine J.seq ?_
              refine J.region_lit ?_
              refine JL.q rfl rfl rfl (by first | exact QW.load_box 3 ty92 (.tmp rfl) rfl rfl rfl | exact QW.load_box 3 ty92 (.tmp rfl) rfl (take_at (BT.cs_length _ _) rfl) (BT.cs_length _ _)) ?_
              first | refine JL.store_boxF 0 ty92 (.tmp rfl) rfl (.tmp rfl) (by first | rfl | assumption) (rfl) (rfl) rfl ?_ | refine JL.store_boxF 0 ty92 (.tmp rfl) rfl (.tmp rfl) (by first | rfl | assumption) (rfl) (BT.cs_length _ _) rfl ?_ | refine JL.store_boxF 0 ty92 (.tmp rfl) rfl (.tmp rfl) (by first | rfl | assumption) (BT.cs_length _ _) (rfl) rfl ?_ | refine JL.store_boxF 0 ty92 (.tmp rfl) rfl (.tmp rfl) (by first | rfl | assumption) (BT.cs_length _ _) (BT.cs_length _ _) rfl ?_ | refine JL.store_box 0 ty92 (.tmp rfl) rfl (.tmp rfl) (by first | rfl | assumption) rfl rfl rfl rfl ?_ | refine JL.store_box 0 ty92 (.tmp rfl) rfl (.tmp rfl) (by first | rfl | assumption) (BT.cs_length _ _) rfl rfl rfl ?_
              refine JL.nil ?_
              refine thenQ.n ?_
              refine J.seq ?_
              refine J.closeArr 1 rfl (by rw [idsAV_length]; show _ * 8 ≤ _; unfold reach; omega) rfl (fun _ h => by cases h) ?_
              refine J.reown (Reown.nilArrE eI64 _) ?_
              refine J.region_lit ?_
              refine JL.q rfl rfl rfl (QW.assign .const) ?_
              refine JL.nil ?_
              refine thenQ.n ?_
              refine J.seq ?_
              refine J.region_lit ?_
              refine JL.q rfl rfl rfl (QW.move (.tmp rfl)) ?_
              refine JL.q rfl rfl rfl (QW.move (.tmp rfl)) ?_
              refine JL.q rfl rfl rfl (QW.move (.tmp rfl)) ?_
              refine JL.q rfl rfl rfl (QW.slice_H sl66 ty3 rfl (Ev.le (.tmp rfl) (.fact (.head _) (.refl _))) (.tmp rfl) rfl (by rw [idsAV_length]; omega)) ?_
              refine JL.append 4 sl66 el3 rfl (.tmp rfl) rfl (srcA_sl sl66 (.tmp rfl)) (by simp [idsAV_length]; unfold reach; omega) rfl fun v148 => ?_
              refine JL.q rfl rfl rfl (QW.assign (.tmp rfl)) ?_
              refine JL.nil ?_
              refine thenQ.n ?_
              refine J.region_lit ?_
              refine JL.q rfl rfl rfl (QW.move (.tmp rfl)) ?_
              refine JL.q rfl rfl rfl (QW.move (.tmp rfl)) ?_
              refine JL.q rfl rfl rfl (QW.move (.tmp rfl)) ?_
              refine JL.q rfl rfl rfl (QW.add (.tmp rfl) .const (w64n (m := att + 1) (by omega) (by omega))) ?_
              refine JL.q rfl rfl rfl (QW.slice_L sl66 ty3 rfl (Ev.le (.tmp rfl) (.fact (.head _) (.refl _))) (.tmp rfl) rfl (by rw [idsAV_length]; omega)) ?_
              refine JL.append 4 sl66 el3 rfl (.tmp rfl) rfl (srcA_sl sl66 (.tmp rfl)) (by rw [List.nil_append, List.length_take, List.length_drop, idsAV_length, hN]; show _ * 8 ≤ _; unfold reach; omega) rfl fun v154 => ?_
              refine JL.q rfl rfl rfl (QW.assign (.tmp rfl)) ?_
              refine JL.nil ?_
              refine blkQ.n ?_
              refine thenQ.n ?_
              refine J.region_lit ?_
              refine JL.q rfl rfl rfl (QW.move (.tmp rfl)) ?_
              refine JL.q rfl rfl rfl (QW.add (.tmp rfl) .const (by first | exact w64n (by first | rfl | omega | (simp; done)) (by omega) | exact w64 (by omega) | rfl)) ?_
              refine JL.q rfl rfl rfl (QW.assign (.tmp rfl)) ?_
              refine JL.nil ?_
              refine thenQ.n ?_
              exact ⟨⟨j + 1, L2, ⟨L2, (b.items ++ numIt (L2 : Int) 0 mm).eraseIdx att⟩, v154⟩, ⟨hj2, hb2.less att, hw3, Int.le_refl _, by omega⟩, by show 12 - (j + 1) < 12 - j; omega, Wk.re (.cons rfl (.refl _) (.cons rfl (.refl _) (.cons rfl (.refl _) (.cons rfl (.refl _) (.cons rfl (.refl _) (.cons rfl (.refl _) (.cons rfl (.refl _) .nil))))))) ((Reown.msk [.p, .k, .k, .k, .p] _ rfl).trans (Reown.ofEq (by show [_, Own.arr v154 eI64 ([] ++ _ ++ _)] = [_, Own.arr v154 eI64 (idsAV _)]; rw [idsAV_erase]; rfl))) (fun _ h => by first | exact h | simp [h])⟩
          · skip
            skip
            refine J.skip ?_
            refine blkQ.n ?_
            refine thenQ.n ?_
            refine J.region_lit ?_
            refine JL.q rfl rfl rfl (QW.move (.tmp rfl)) ?_
            refine JL.q rfl rfl rfl (QW.add (.tmp rfl) .const (by first | exact w64n (by first | rfl | omega | (simp; done)) (by omega) | exact w64 (by omega) | rfl)) ?_
            refine JL.q rfl rfl rfl (QW.assign (.tmp rfl)) ?_
            refine JL.nil ?_
            refine thenQ.n ?_
            exact ⟨⟨j + 1, L2, ⟨L2, b.items ++ numIt (L2 : Int) 0 mm⟩, v⟩, ⟨hj2, hb2, hw2, Int.le_refl _, by omega⟩, by show 12 - (j + 1) < 12 - j; omega, Wk.re (.cons rfl (.refl _) (.cons rfl (.refl _) (.cons rfl (.refl _) (.cons rfl (.refl _) (.cons rfl (.refl _) (.cons rfl (.refl _) (.cons rfl (.refl _) .nil))))))) (Reown.msk [.p, .p] _ rfl) (fun _ h => by first | exact h | simp [h])⟩
    · skip
      have hbn := hb.ln
      refine J.exit ?_
      refine thenQ.x ?_
      refine thenQ.x ?_
      refine blkQ.hit ?_
      refine thenQ.n ?_
      refine J.seq ?_
      refine J.region_lit ?_
      refine JL.q rfl rfl rfl (by first | exact QW.load_box 0 ty92 (.tmp rfl) rfl rfl rfl | exact QW.load_box 0 ty92 (.tmp rfl) rfl (take_at (BT.cs_length _ _) rfl) (BT.cs_length _ _)) ?_
      refine JL.q rfl rfl rfl (QW.call gofn58 (.cons (.tmp rfl) (.cons .const .nil)) (nextAt hw hb.next)) ?_
      refine JL.q rfl rfl rfl (QW.move (.tmp rfl)) ?_
      refine JL.q rfl rfl rfl (QW.extract (.tmp rfl) rfl) ?_
      refine JL.q rfl rfl rfl (QW.extract (.tmp rfl) rfl) ?_
      refine JL.q rfl rfl rfl (QW.assign (.tmp rfl)) ?_
      refine JL.q rfl rfl rfl (QW.assign (.tmp rfl)) ?_
      refine JL.nil ?_
      refine thenQ.n ?_
      refine J.seq ?_
      refine J.seq ?_
      refine J.region_lit ?_
      refine JL.q rfl rfl rfl (QW.move (.tmp rfl)) ?_
      refine JL.q rfl rfl rfl (QW.call gofn61 (.cons (.tmp rfl) .nil) (num08_ok _)) ?_
      refine JL.q rfl rfl rfl (QW.neq (.tmp rfl) .const) ?_
      refine JL.q rfl rfl rfl (QW.move (.tmp rfl)) ?_
      refine JL.g rfl rfl rfl rfl rfl (fun hg => (QW.move (.tmp rfl))) ?_
      refine JL.g rfl rfl rfl rfl rfl (fun hg => (by first | exact QW.len_slE sl88 (.when rfl hg) (ItT.css_length _ _) | exact QW.len_slE sl88 (.when rfl hg) (EvT.css_length _ _) | exact QW.len_slE sl88 (.when rfl hg) (intsAV_length _) | exact QW.len_sl sl88 (.when rfl hg) | exact QW.len_nil sl88 (.when rfl hg))) ?_
      refine JL.g rfl rfl rfl rfl rfl (fun hg => (QW.move (.tmp rfl))) ?_
      refine JL.g rfl rfl rfl rfl rfl (fun hg => (QW.len_arr 1 sl66 (.when rfl hg) rfl)) ?_
      refine JL.g rfl rfl rfl rfl rfl (fun hg => (QW.neq (.when rfl hg) (.when rfl hg))) ?_
      refine JL.q rfl rfl rfl (QW.pick_or (.tmp rfl) (.tmp rfl)) ?_
      refine JL.nil ?_
      refine thenQ.n ?_
      refine J.cond (.tmp rfl) (fun c3 => ?_) (fun c3 => ?_)
      · skip
        exact absurd c3 (by simp [idsAV_length])
        --closed
      · skip
        skip
        refine J.skip ?_
        refine thenQ.n ?_
        refine J.seq ?_
        refine J.seq ?_
        refine J.region_lit ?_
        refine JL.q rfl rfl rfl (QW.assign .const) ?_
        refine JL.nil ?_
        refine thenQ.n ?_
        refine J.block ?_
        refine J.loopK (ι := Nat) [8, 23] (fun i => [(25, .c (.int .i64 (i : Int)))]) (fun _ oo => oo) (fun i => i ≤ b.items.length) (fun i => b.items.length - i) 0 (Nat.zero_le _) (Wk.re (.cons rfl (.refl _) (.cons rfl (.refl _) (.cons rfl (.refl _) .nil))) (Reown.refl _) (fun _ h => by first | exact h | simp [h])) ?_
        intro i hi
        refine J.conv (by (try simp only [stepsO, List.map_cons, List.map_nil, valO, nthO, curO, mrg, List.reverse_cons, List.reverse_nil, List.nil_append, List.cons_append, List.append_nil, List.getElem?_cons_zero, List.getElem?_cons_succ, Option.map_some, Option.getD_some, List.set_cons_zero, List.set_cons_succ, AV.cellsOf, splice_zero, splice_succ, Nat.zero_add, Nat.reduceAdd]); rfl) ?_
        refine J.seq ?_
        refine J.seq ?_
        refine J.region_lit ?_
        refine JL.q rfl rfl rfl (QW.move (.tmp rfl)) ?_
        refine JL.q rfl rfl rfl (QW.move (.tmp rfl)) ?_
        refine JL.q rfl rfl rfl (by first | exact QW.len_slE sl88 (.tmp rfl) (ItT.css_length _ _) | exact QW.len_slE sl88 (.tmp rfl) (EvT.css_length _ _) | exact QW.len_slE sl88 (.tmp rfl) (intsAV_length _) | exact QW.len_sl sl88 (.tmp rfl) | exact QW.len_nil sl88 (.tmp rfl)) ?_
        refine JL.q rfl rfl rfl (QW.lss (.tmp rfl) (.tmp rfl)) ?_
        refine JL.nil ?_
        refine thenQ.n ?_
        refine J.cond (.tmp rfl) (fun c4 => ?_) (fun c4 => ?_)
        · skip
          have hi1 : i < b.items.length := by (simpa using c4)
          refine J.skip ?_
          refine thenQ.n ?_
          refine J.seq ?_
          refine J.block ?_
          refine J.seq ?_
          refine J.region_tailK 9 mixed (by kernel_rfl) (by kernel_rfl) (by kernel_rfl) rfl ?_
          refine .cons [] rfl rfl rfl (.q rfl (QW.move (.tmp rfl))) ?_
          refine .cons [] rfl rfl rfl (.q rfl (QW.move (.tmp rfl))) ?_
          refine .cons [176, 177] rfl rfl rfl (.q rfl (QW.index_sl sl88 ty116 rfl (.tmp rfl) (.tmp rfl) (by first | rfl | omega | (simp; done)) (by exact ItT.css_getE true hi1))) ?_
          refine .cons [178] rfl rfl rfl (.q rfl (QW.field_ref fo116_0 (.tmp rfl) rfl)) ?_
          refine .cons [179] rfl rfl rfl (.q rfl (QW.load_ref1 ty3 (.tmp rfl) rfl)) ?_
          refine .cons [] rfl rfl rfl (.q rfl (QW.move (.tmp rfl))) ?_
          refine .cons [] rfl rfl rfl (.q rfl (QW.move (.tmp rfl))) ?_
          refine .cons [181, 182] rfl rfl rfl (.q rfl (QW.index_arr 1 sl66 ty3 rfl (.tmp rfl) rfl (.tmp rfl) (by first | rfl | omega | (simp; done)) (by rw [idsAV_length]; omega) rfl)) ?_
          refine .cons [183] rfl rfl rfl (.q rfl (by first | exact QW.load_gp1 (o := 0) 1 ty3 (.tmp rfl) rfl (by exact idsAV_at hi1) rfl rfl | exact QW.load_gp1 1 ty3 (.tmp rfl) rfl (by exact idsAV_at hi1) rfl rfl)) ?_
          refine .nil ?_
          refine JL.q rfl rfl rfl (QW.neq (.tmp rfl) (.tmp rfl)) ?_
          refine JL.nil ?_
          refine thenQ.n ?_
          refine J.cond (.tmp rfl) (fun c5 => ?_) (fun c5 => ?_)
          · skip
            exact absurd c5 (by simp)
            --closed
          · skip
            skip
            refine J.skip ?_
            refine blkQ.n ?_
            refine thenQ.n ?_
            refine J.region_lit ?_
            refine JL.q rfl rfl rfl (QW.move (.tmp rfl)) ?_
            refine JL.q rfl rfl rfl (QW.add (.tmp rfl) .const (by first | exact w64n (by first | rfl | omega | (simp; done)) (by omega) | exact w64 (by omega) | rfl)) ?_
            refine JL.q rfl rfl rfl (QW.assign (.tmp rfl)) ?_
            refine JL.nil ?_
            refine thenQ.n ?_
            exact ⟨i + 1, hi1, by omega, Wk.re (.cons rfl (.refl _) (.cons rfl (.refl _) (.cons rfl (.refl _) .nil))) (Reown.refl _) (fun _ h => by first | exact h | simp [h])⟩
        · skip
          skip
          refine J.exit ?_
          refine thenQ.x ?_
          refine thenQ.x ?_
          refine blkQ.hit ?_
          refine thenQ.n ?_
          refine J.seq ?_
          refine J.region_lit ?_
          refine JL.q rfl rfl rfl (QW.assign .const) ?_
          refine JL.nil ?_
          refine thenQ.n ?_
          refine J.ret ?_
          exact ⟨_, selP [.k, .k] _, _, RetEv.one rfl (REv.tmp rfl (.refl _)), rfl, sel_perm [.k, .k] _, ⟨ret_b (by simp), rfl⟩⟩
end Go.Proofs.Ytkiankpmkglhcaa.J

