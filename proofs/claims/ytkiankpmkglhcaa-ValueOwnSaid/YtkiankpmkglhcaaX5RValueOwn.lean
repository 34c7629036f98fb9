/- Texts of this proof, laid together. -/
import Derived.Test.YtkiankpmkglhcaaX4RValueOwn
/- Regions that draw their order: quiet operations and allocations float until one that waits for them; the others come one by one. -/
namespace Go.Proofs.Ytkiankpmkglhcaa.J
open Go Go.RowKit
set_option linter.unusedVariables false
set_option linter.unusedSimpArgs false
/-- One that floats: its place, its slot, what it comes to (a value, or a new variable's cells); fre: of what is owned it reads nothing but O. -/
structure Flt where
  i : Nat
  d : Nat
  v : AV ⊕ List AV
  fre : Bool
  O : Option (Nat × Own) := none
def Flt.ex (L : Array Bool) (bs : Nat → Nat) (φ : Flt) : List Own := match φ.v with
  | .inl _ => []
  | .inr z => if L.getD φ.i false = true then [.box (bs φ.i) z] else []
def exF (L : Array Bool) (bs : Nat → Nat) (Φ : List Flt) : List Own := Φ.flatMap (Flt.ex L bs)
def Flt.bx (bs : Nat → Nat) (φ : Flt) : List Own := match φ.v with
  | .inl _ => []
  | .inr z => [.box (bs φ.i) z]
def bxF (bs : Nat → Nat) : List Flt → List Own
  | [] => []
  | φ :: Φ => φ.bx bs ++ bxF bs Φ
def Flt.val (bs : Nat → Nat) (φ : Flt) : AV := match φ.v with
  | .inl x => x
  | .inr _ => .c (.pointer (some ⟨bs φ.i, 0, none⟩))
def vlF (bs : Nat → Nat) : List Flt → List (Nat × AV)
  | [] => []
  | φ :: Φ => (φ.d, φ.val bs) :: vlF bs Φ
/-- Those that a mask takes, and the others. -/
def tkM : List Bool → List Flt → List Flt
  | true :: ms, φ :: Φ => φ :: tkM ms Φ
  | false :: ms, _ :: Φ => tkM ms Φ
  | _, _ => []
def lvM : List Bool → List Flt → List Flt
  | true :: ms, _ :: Φ => lvM ms Φ
  | false :: ms, φ :: Φ => φ :: lvM ms Φ
  | _, Φ => Φ
theorem tl_perm : ∀ (ms : List Bool) (Φ : List Flt), Φ.Perm (tkM ms Φ ++ lvM ms Φ)
  | [], Φ => by simp [tkM, lvM]
  | _ :: _, [] => by simp [tkM, lvM]
  | true :: ms, φ :: Φ => by simpa [tkM, lvM] using tl_perm ms Φ
  | false :: ms, φ :: Φ => by
    simp only [tkM, lvM]
    exact (List.Perm.cons φ (tl_perm ms Φ)).trans List.perm_middle.symm
def memB (i : Nat) (l : List Nat) : Bool := l.any (Nat.beq i)
theorem memB_iff {i : Nat} {l : List Nat} : memB i l = true ↔ i ∈ l := by
  simp only [memB, List.any_eq_true]
  exact ⟨fun ⟨x, h1, h2⟩ => Nat.eq_of_beq_eq_true h2 ▸ h1, fun h => ⟨i, h, by simp⟩⟩
/-- All others wait for one that is neither settled nor floats. -/
def blkB (l : List Oper) (S Φ : List Nat) (i : Nat) : Bool := (List.range l.length).all fun j => memB j S || memB j Φ || Nat.beq j i || (match l[j]? with
  | some o => o.after.toList.any fun e => Region.binds .any e && !memB e.on S && !memB e.on Φ
  | none => true)
/-- Each of these is one that o, or one of the others of them further ahead, waits for. -/
def lndB (l : List Oper) (o : Oper) : List Oper → List Nat → Bool
  | _, [] => true
  | os, i :: Φ => (depsOk o [i] || os.any fun o' => depsOk o' [i]) && lndB l o (match l[i]? with | some o' => o' :: os | none => os) Φ
section
variable {P : Program} {E : Ent} {Q : Exit → St → Prop} {n : Nat} {env : List (Nat × AV)} {own : List Own} {F : List (Value × AV)} {D : List Deferred} {ops : Array Oper}
/-- It can run. -/
def FOk (P : Program) (E : Ent) (ops : Array Oper) (n : Nat) (env : List (Nat × AV)) (own : List Own) (F : List (Value × AV)) (D : List Deferred) (Φ : List Flt) (φ : Flt) : Prop :=
  ∃ o, ops[φ.i]? = some o ∧ o.dst = some φ.d ∧ φ.d < n ∧ match φ.v with
    | .inr z => AllocOp P o φ.d z
    | .inl x => ∃ e : List (Nat × AV), (∀ s y, lk e s = some y → lk env s = some y ∨ ∃ ψ ∈ Φ, ψ.d = s ∧ ψ.v = .inl y ∧ depsOk o [ψ.i] = true) ∧
      (∀ k en, φ.O = some (k, en) → own[k]? = some en) ∧ ∀ own', (φ.fre = false → ∃ ex, own' = own ++ ex) → (∀ k en, φ.O = some (k, en) → own'[k]? = some en) → Step P E ops ⟨n, e, own', F, D⟩ o x
/-- What those that float read stands where it stood. -/
def okO (own : List Own) : List Flt → Prop
  | [] => True
  | φ :: Φ => (match φ.O with | some (k, en) => own[k]? = some en | none => True) ∧ okO own Φ
theorem okO_get {own : List Own} : ∀ {Φ : List Flt}, okO own Φ → ∀ φ ∈ Φ, ∀ k en, φ.O = some (k, en) → own[k]? = some en
  | ψ :: Φ, h, φ, hφ, k, en, he => by
    rcases List.mem_cons.1 hφ with rfl | hφ
    · have := h.1; rw [he] at this; exact this
    · exact okO_get h.2 φ hφ k en he
structure WfX (ops : Array Oper) (env : List (Nat × AV)) (S : List Nat) (Φ : List Flt) : Prop where
  nd : (Φ.map (·.i)).Nodup
  ndd : (Φ.map (·.d)).Nodup
  ns : ∀ φ ∈ Φ, φ.i ∉ S
  ne : ∀ φ ∈ Φ, lk env φ.d = none
structure Cfg (E : Ent) (ops : Array Oper) (n : Nat) (env : List (Nat × AV)) (own : List Own) (F : List (Value × AV)) (D : List Deferred) (S : List Nat) (Φ : List Flt) (L : Array Bool) (bs : Nat → Nat) (A : Foot) (a : Act) (w : World) : Prop where
  size : L.size = ops.size
  yes : ∀ i ∈ S, L.getD i false = true
  no : ∀ i, i ∉ S → (∀ φ ∈ Φ, φ.i ≠ i) → L.getD i false = false
  clo : ∀ i o, ops[i]? = some o → L.getD i false = true → ∀ e ∈ o.after, Region.binds .any e = true → L.getD e.on false = true
  sat : SatA E A ⟨n, env, own ++ exF L bs Φ, F, D⟩ a w
  val : ∀ φ ∈ Φ, L.getD φ.i false = true → Rd w A (a.tmps.getD φ.d undef) (φ.val bs)
/-- The rest of a region: S is settled, Φ floats. -/
def JX (P : Program) (E : Ent) (ops : Array Oper) (S : List Nat) (Φ : List Flt) (st : St) (Q : Exit → St → Prop) : Prop :=
  WfX ops st.env S Φ → (∀ φ ∈ Φ, FOk P E ops st.n st.env st.own st.facts st.dfs Φ φ) →
    ∀ fuel L bs A a w, cnt ops.size (fun i => !L.getD i true) ≤ fuel → Cfg E ops st.n st.env st.own st.facts st.dfs S Φ L bs A a w → wpAnyIn (fen E.rd) 0 P .any ops (lift E Q) fuel L a w
theorem exF_perm {L : Array Bool} {bs : Nat → Nat} {Φ Φ' : List Flt} (h : Φ.Perm Φ') : (exF L bs Φ).Perm (exF L bs Φ') := h.flatMap_right _
theorem exF_append (L : Array Bool) (bs : Nat → Nat) (Φ Φ' : List Flt) : exF L bs (Φ ++ Φ') = exF L bs Φ ++ exF L bs Φ' := by simp [exF]
theorem exF_done {L : Array Bool} {bs : Nat → Nat} : ∀ {Φ : List Flt}, (∀ φ ∈ Φ, L.getD φ.i false = true) → exF L bs Φ = bxF bs Φ
  | [], _ => rfl
  | φ :: Φ, h => by
    have h1 := h φ (by simp)
    have h2 := exF_done (L := L) (bs := bs) (Φ := Φ) fun ψ hψ => h ψ (by simp [hψ])
    unfold exF at h2 ⊢
    rw [List.flatMap_cons, h2, bxF]
    congr 1
    unfold Flt.ex Flt.bx
    split
    · rename_i heq; simp [heq]
    · rename_i z heq; simp [heq, h1]
theorem exF_congr {L L' : Array Bool} {bs bs' : Nat → Nat} : ∀ {Φ : List Flt}, (∀ φ ∈ Φ, L'.getD φ.i false = L.getD φ.i false ∧ bs' φ.i = bs φ.i) → exF L' bs' Φ = exF L bs Φ
  | [], _ => rfl
  | φ :: Φ, h => by
    have h1 := h φ (by simp)
    have h2 := exF_congr (L := L) (L' := L') (bs := bs) (bs' := bs') (Φ := Φ) fun ψ hψ => h ψ (by simp [hψ])
    unfold exF at h2 ⊢
    rw [List.flatMap_cons, List.flatMap_cons, h2]
    congr 1
    unfold Flt.ex
    rw [h1.1, h1.2]
theorem exF_ext {L L' : Array Bool} {bs : Nat → Nat} : ∀ {Φ : List Flt}, (∀ φ ∈ Φ, φ.ex L' bs = φ.ex L bs) → exF L' bs Φ = exF L bs Φ
  | [], _ => rfl
  | φ :: Φ, h => by
    have h2 := exF_ext (L := L) (L' := L') (bs := bs) (Φ := Φ) fun ψ hψ => h ψ (by simp [hψ])
    unfold exF at h2 ⊢
    rw [List.flatMap_cons, List.flatMap_cons, h2, h φ (by simp)]
theorem lk_vlF {bs : Nat → Nat} {env : List (Nat × AV)} : ∀ {Φ : List Flt} {s : Nat} {x : AV}, lk (vlF bs Φ ++ env) s = some x → (∃ φ ∈ Φ, φ.d = s ∧ φ.val bs = x) ∨ lk env s = some x
  | [], _, _, h => .inr h
  | φ :: Φ, s, x, h => by
    rcases lk_cons h with ⟨rfl, rfl⟩ | ⟨_, h⟩
    · exact .inl ⟨φ, by simp, rfl, rfl⟩
    · rcases lk_vlF h with ⟨ψ, h1, h2⟩ | h
      · exact .inl ⟨ψ, by simp [h1], h2⟩
      · exact .inr h
theorem lk_vlF_mem {bs : Nat → Nat} {env : List (Nat × AV)} : ∀ {Φ : List Flt} {φ : Flt}, (Φ.map (·.d)).Nodup → φ ∈ Φ → lk (vlF bs Φ ++ env) φ.d = some (φ.val bs)
  | ψ :: Φ, φ, hn, h => by
    rw [List.map_cons, List.nodup_cons] at hn
    rw [vlF, List.cons_append, lk_hd]
    rcases List.mem_cons.1 h with rfl | h
    · simp
    · have hne : Nat.beq ψ.d φ.d = false := by
        cases hb : Nat.beq ψ.d φ.d with
        | false => rfl
        | true => exact absurd (List.mem_map.2 ⟨φ, h, (Nat.eq_of_beq_eq_true hb).symm⟩) hn.1
      rw [hne]
      exact lk_vlF_mem hn.2 h
theorem lk_vlF_none {bs : Nat → Nat} {env : List (Nat × AV)} : ∀ {Φ : List Flt} {s : Nat}, (∀ φ ∈ Φ, φ.d ≠ s) → lk (vlF bs Φ ++ env) s = lk env s
  | [], _, _ => rfl
  | ψ :: Φ, s, h => by
    rw [vlF, List.cons_append, lk_hd]
    have hne : Nat.beq ψ.d s = false := by
      cases hb : Nat.beq ψ.d s with
      | false => rfl
      | true => exact absurd (Nat.eq_of_beq_eq_true hb) (h ψ (by simp))
    rw [hne]
    exact lk_vlF_none fun φ hφ => h φ (by simp [hφ])
/-- One that floats comes up: it runs, and the same holds. -/
theorem Cfg.run {S : List Nat} {Φ : List Flt} {L : Array Bool} {bs : Nat → Nat} {A : Foot} {a : Act} {w : World} (hw : WfX ops env S Φ) (hF : ∀ φ ∈ Φ, FOk P E ops n env own F D Φ φ) (hc : Cfg E ops n env own F D S Φ L bs A a w) {φ : Flt} (hφ : φ ∈ Φ) (hun : L.getD φ.i false = false) (hlt : φ.i < ops.size)
    (hdeps : ∀ o, ops[φ.i]? = some o → ∀ e ∈ o.after, Region.binds .any e = true → L.getD e.on false = true) {fuel : Nat} {Qx : Exit → Act → World → Prop}
    (hk : ∀ bs' A' a' w', Cfg E ops n env own F D S Φ (L.setIfInBounds φ.i true) bs' A' a' w' → wpAnyIn (fen E.rd) 0 P .any ops Qx fuel (L.setIfInBounds φ.i true) a' w') :
    wpOpIn (fen E.rd) 0 P ops Qx φ.i (wpAnyIn (fen E.rd) 0 P .any ops Qx fuel (L.setIfInBounds φ.i true)) a w := by
  obtain ⟨o, ho, hd, hdn, hm⟩ := hF φ hφ
  have hLs : φ.i < L.size := by rw [hc.size]; exact hlt
  have hset : ∀ j, (L.setIfInBounds φ.i true).getD j false = if j = φ.i then true else L.getD j false := fun j => getD_set _ _ _ hLs _
  have hyes : ∀ i ∈ S, (L.setIfInBounds φ.i true).getD i false = true := fun i hi => by rw [hset]; split; rfl; exact hc.yes i hi
  have hno : ∀ i, i ∉ S → (∀ ψ ∈ Φ, ψ.i ≠ i) → (L.setIfInBounds φ.i true).getD i false = false := fun i h1 h2 => by rw [hset, if_neg (fun h => h2 φ hφ h.symm)]; exact hc.no i h1 h2
  have hclo : ∀ i o, ops[i]? = some o → (L.setIfInBounds φ.i true).getD i false = true → ∀ e ∈ o.after, Region.binds .any e = true → (L.setIfInBounds φ.i true).getD e.on false = true := fun i o' ho' hL e he hb => by
    rw [hset] at hL ⊢
    split
    · rfl
    · by_cases hi : i = φ.i
      · subst hi; exact hdeps o' ho' e he hb
      · rw [if_neg hi] at hL; exact hc.clo i o' ho' hL e he hb
  have hne : ∀ ψ ∈ Φ, ψ.i ≠ φ.i → φ.d ≠ ψ.d := fun ψ hψ hi hd' => by
    have := hw.ndd
    rw [List.nodup_iff_pairwise_ne, List.pairwise_map] at this
    obtain ⟨x, hx⟩ := List.getElem?_of_mem hφ
    obtain ⟨y, hy⟩ := List.getElem?_of_mem hψ
    by_cases hxy : x = y
    · subst hxy; rw [hx] at hy; cases hy; exact hi rfl
    · rw [List.pairwise_iff_getElem] at this
      obtain ⟨h1, h2⟩ := List.getElem?_eq_some_iff.1 hx
      obtain ⟨h3, h4⟩ := List.getElem?_eq_some_iff.1 hy
      rcases Nat.lt_or_gt_of_ne hxy with h | h
      · have := this x y h1 h3 h; rw [h2, h4] at this; exact this hd'
      · have := this y x h3 h1 h; rw [h2, h4] at this; exact this hd'.symm
  have huniq : ∀ ψ ∈ Φ, ψ.i = φ.i → ψ = φ := fun ψ hψ hi => by
    have := hw.nd
    rw [List.nodup_iff_pairwise_ne, List.pairwise_map, List.pairwise_iff_getElem] at this
    obtain ⟨x, hx⟩ := List.getElem?_of_mem hφ
    obtain ⟨y, hy⟩ := List.getElem?_of_mem hψ
    obtain ⟨h1, h2⟩ := List.getElem?_eq_some_iff.1 hx
    obtain ⟨h3, h4⟩ := List.getElem?_eq_some_iff.1 hy
    by_cases hxy : x = y
    · subst hxy; rw [hx] at hy; cases hy; rfl
    · rcases Nat.lt_or_gt_of_ne hxy with h | h
      · have := this x y h1 h3 h; rw [h2, h4] at this; exact absurd hi.symm this
      · have := this y x h3 h1 h; rw [h2, h4] at this; exact absurd hi this
  have hput : ∀ v s, φ.d ≠ s → (a.put o.dst v).tmps.getD s undef = a.tmps.getD s undef := fun v s h => by rw [hd]; exact put_getD_ne h
  unfold wpOpIn
  simp only [ho]
  cases hv : φ.v with
  | inl x =>
    rw [hv] at hm
    obtain ⟨e, he, hO, hs⟩ := hm
    have hexs : ∀ bs, exF (L.setIfInBounds φ.i true) bs Φ = exF L bs Φ := fun bs => by
      refine exF_ext fun ψ hψ => ?_
      unfold Flt.ex
      by_cases hi : ψ.i = φ.i
      · rw [huniq ψ hψ hi, hv]
      · rw [hset, if_neg hi]
    have hsat : SatA E A ⟨n, e, own ++ exF L bs Φ, F, D⟩ a w := ⟨hc.sat.size, hc.sat.defers, hc.sat.keep, hc.sat.hp, fun s y hl => by
      rcases he s y hl with h | ⟨ψ, hψ, rfl, hψv, hψd⟩
      · exact hc.sat.env s y h
      · obtain ⟨e', he', hb, hon⟩ := depsOk_get hψd (List.mem_singleton.2 rfl)
        have h1 := hdeps o ho e' he' hb
        rw [hon] at h1
        have := hc.val ψ hψ h1
        unfold Flt.val at this
        rw [hψv] at this
        exact this, hc.sat.facts⟩
    have h1 := hs _ (fun _ => ⟨_, rfl⟩) (fun k en hk => by
      have := hO k en hk
      rw [List.getElem?_append_left (List.getElem?_eq_some_iff.1 this).1]; exact this) A a w hsat (wpAnyIn (fen E.rd) 0 P .any ops Qx fuel (L.setIfInBounds φ.i true)) Qx fun v w' A' hf hs' hr => hk bs A' _ w'
      ⟨by simpa using hc.size, hyes, hno, hclo, by
        rw [hexs]
        exact ⟨by have := hs'.size; simp only [Act.put, hd, Array.size_setIfInBounds]; exact this, by rw [hd]; exact hs'.defers, hs'.keep, hs'.hp, fun s y hl => by
          rw [hput v s (fun h => by rw [← h, hw.ne φ hφ] at hl; cases hl)]
          exact hf _ _ (hc.sat.env s y hl), hs'.facts⟩, fun ψ hψ hL => by
        by_cases hi : ψ.i = φ.i
        · obtain rfl := huniq ψ hψ hi
          rw [hd, put_getD_same (by have := hs'.size; simp only at this; rw [this]; exact hdn)]
          unfold Flt.val
          rw [hv]
          exact hr
        · rw [hset, if_neg hi] at hL
          rw [hput v _ (hne ψ hψ hi)]
          exact hf _ _ (hc.val ψ hψ hL)⟩
    split
    · rename_i hw'; rw [if_pos hw'] at h1; exact h1
    · rename_i hw'; rw [if_neg hw'] at h1; exact ⟨fun _ _ => trivial, h1⟩
  | inr z =>
    rw [hv] at hm
    have hga := hm.guard
    rw [if_pos (by simp [Region.wanted, hga])]
    refine hm.run (E := E) hc.sat (wpAnyIn (fen E.rd) 0 P .any ops Qx fuel (L.setIfInBounds φ.i true)) fun b w' hf hs' => ?_
    have hperm : (exF (L.setIfInBounds φ.i true) (fun j => if j = φ.i then b else bs j) Φ).Perm (.box b z :: exF L bs Φ) := by
      obtain ⟨p, q, rfl⟩ := List.append_of_mem hφ
      have hother : ∀ ψ ∈ p ++ q, (L.setIfInBounds φ.i true).getD ψ.i false = L.getD ψ.i false ∧ (if ψ.i = φ.i then b else bs ψ.i) = bs ψ.i := fun ψ hψ => by
        have hne' : ψ.i ≠ φ.i := fun hi => by
          have := hw.nd
          rw [List.map_append, List.map_cons] at this
          have h2 := (List.perm_middle.nodup_iff).1 this
          rw [List.nodup_cons] at h2
          exact h2.1 (by rw [← List.map_append, ← hi]; exact List.mem_map.2 ⟨ψ, hψ, rfl⟩)
        exact ⟨by rw [hset, if_neg hne'], by rw [if_neg hne']⟩
      have h1 := exF_congr (L := L) (L' := L.setIfInBounds φ.i true) (bs := bs) (bs' := fun j => if j = φ.i then b else bs j) (Φ := p) fun ψ hψ => hother ψ (List.mem_append_left _ hψ)
      have h2 := exF_congr (L := L) (L' := L.setIfInBounds φ.i true) (bs := bs) (bs' := fun j => if j = φ.i then b else bs j) (Φ := q) fun ψ hψ => hother ψ (List.mem_append_right _ hψ)
      have e1 : ∀ (L : Array Bool) (bs : Nat → Nat), exF L bs (p ++ φ :: q) = exF L bs p ++ (φ.ex L bs ++ exF L bs q) := fun L bs => by simp [exF]
      rw [e1, e1, h1, h2]
      have e2 : φ.ex (L.setIfInBounds φ.i true) (fun j => if j = φ.i then b else bs j) = [.box b z] := by unfold Flt.ex; rw [hv]; simp only [hset, if_true]
      have e3 : φ.ex L bs = [] := by unfold Flt.ex; rw [hv]; simp [hun]
      rw [e2, e3, List.nil_append]
      exact List.perm_middle
    have hs' : SatA E A ⟨n, env, own ++ exF (L.setIfInBounds φ.i true) (fun j => if j = φ.i then b else bs j) Φ, F, D⟩ a w' := hs'.perm (List.perm_middle.symm.trans (List.Perm.append_left _ hperm.symm))
    refine hk (fun j => if j = φ.i then b else bs j) A _ w' ⟨by simpa using hc.size, hyes, hno, hclo, ⟨by have := hs'.size; simp only [Act.put, hd, Array.size_setIfInBounds]; exact this, by rw [hd]; exact hs'.defers, hs'.keep, hs'.hp, fun s y hl => ?_, hs'.facts⟩, fun ψ hψ hL => ?_⟩
    · rw [hput _ s (fun h => by rw [← h, hw.ne φ hφ] at hl; cases hl)]
      exact hf _ _ (hc.sat.env s y hl)
    · by_cases hi : ψ.i = φ.i
      · obtain rfl := huniq ψ hψ hi
        rw [hd, put_getD_same (by have := hs'.size; simp only at this; rw [this]; exact hdn)]
        unfold Flt.val
        rw [hv]
        simp only [if_true]
        exact .c _
      · rw [hset, if_neg hi] at hL
        rw [hput _ _ (hne ψ hψ hi)]
        have := hf _ _ (hc.val ψ hψ hL)
        unfold Flt.val at this ⊢
        split
        · rename_i x heq; rw [heq] at this; exact this
        · rename_i z' heq; rw [heq] at this; simp only [if_neg hi]; exact this
theorem lndB_done {L : Array Bool} (hclo : ∀ i o, ops[i]? = some o → L.getD i false = true → ∀ e ∈ o.after, Region.binds .any e = true → L.getD e.on false = true) {o : Oper} (hdeps : ∀ e ∈ o.after, Region.binds .any e = true → L.getD e.on false = true) :
    ∀ (Φ : List Nat) (os : List Oper), (∀ o' ∈ os, ∀ e ∈ o'.after, Region.binds .any e = true → L.getD e.on false = true) → lndB ops.toList o os Φ = true → ∀ i ∈ Φ, L.getD i false = true
  | [], _, _, _ => fun _ h => by cases h
  | j :: Φ, os, hos, h => by
    unfold lndB at h
    rw [Bool.and_eq_true, Bool.or_eq_true] at h
    have hj : L.getD j false = true := by
      rcases h.1 with h1 | h1
      · obtain ⟨e, he, hb, hon⟩ := depsOk_get h1 (List.mem_singleton.2 rfl)
        rw [← hon]; exact hdeps e he hb
      · obtain ⟨o', ho', h1⟩ := List.any_eq_true.1 h1
        obtain ⟨e, he, hb, hon⟩ := depsOk_get h1 (List.mem_singleton.2 rfl)
        rw [← hon]; exact hos o' ho' e he hb
    have hrec := lndB_done hclo hdeps Φ _ (fun o' ho' => by
      split at ho'
      · rename_i o2 ho2
        rcases List.mem_cons.1 ho' with rfl | ho'
        · exact hclo j _ (by simpa using ho2) hj
        · exact hos o' ho'
      · exact hos o' ho') h.2
    intro i hi
    rcases List.mem_cons.1 hi with rfl | hi
    · exact hj
    · exact hrec i hi
theorem cnt_run {L : Array Bool} {i fuel : Nat} (hL : L.size = ops.size) (hi : i < ops.size) (hun : L.getD i true = false) (hc : cnt ops.size (fun i => !L.getD i true) ≤ fuel + 1) : cnt ops.size (fun j => !(L.setIfInBounds i true).getD j true) ≤ fuel := by
  have := cnt_set (fun i => !L.getD i true) (fun j => !(L.setIfInBounds i true).getD j true) i (fun j hj => by rw [getD_set _ _ _ (by omega), if_neg hj]) (by simp [hun]) (by rw [getD_set _ _ _ (by omega), if_pos rfl]; rfl) ops.size
  rw [if_pos hi] at this
  omega
theorem wpListIn_monoN {o : Oper} {K K' : St → Prop} {a : Act} {w : World} (h : wpListIn (fen E.rd) 0 P ops (lift E (thenQ K Q)) [o] a w) (hk : ∀ a w, lift E (thenQ K Q) .normal a w → lift E (thenQ K' Q) .normal a w) : wpListIn (fen E.rd) 0 P ops (lift E (thenQ K' Q)) [o] a w := by
  have hx : ∀ e, e ≠ .normal → ∀ a w, lift E (thenQ K Q) e a w → lift E (thenQ K' Q) e a w := fun e he a w ⟨s, h1, h2⟩ => ⟨s, by cases e <;> first | exact h1 | exact absurd rfl he, h2⟩
  unfold wpListIn at h ⊢
  split
  · rename_i hw
    rw [if_pos hw] at h
    exact Oper.wpIn_monoQ (fun ch a w h => hx _ (by intro h; cases h) a w h) (fun h => by first | exact fun a w => hx _ (by intro h; cases h) a w (h a w) | (obtain ⟨a, w, h⟩ := h; exact ⟨a, w, hx _ (by intro h; cases h) a w h⟩)) (Oper.wpIn_mono (fun a w h => hk a w h) h)
  · rename_i hw
    rw [if_neg hw] at h
    exact ⟨h.1, hk _ _ h.2⟩
/-- The next that is no float. -/
theorem JX.step {S : List Nat} {Φ : List Flt} (i : Nat) (ms : List Bool) {o : Oper} (ho : ops[i]? = some o) (hbk : backB 0 ops.toList = true) (hblk : blkB ops.toList S (Φ.map (·.i)) i = true) (hS : memB i S = false) (hΦ : memB i (Φ.map (·.i)) = false)
    (hlnd : lndB ops.toList o [] ((tkM ms Φ).map (·.i)) = true) (hfre : (lvM ms Φ).all (·.fre) = true)
    (h : ∀ bs pe ex, JL P E ops [o] ⟨n, vlF bs (tkM ms Φ) ++ (env ++ pe), own ++ (bxF bs (tkM ms Φ) ++ ex), F, D⟩ (thenQ (fun s => ∃ ev env' own', s.n = n ∧ s.env = env' ++ pe ∧ s.facts = F ∧ s.dfs = D ∧ env' = ev ++ (vlF bs (tkM ms Φ) ++ env) ∧ ev.all (fun p => o.dst == some p.1) = true ∧ Reown s.own (own' ++ ex) ∧
      (match o.dst with | some d => (Φ.all fun φ => !Nat.beq φ.d d) = true ∧ lk env d = none | none => True) ∧ okO own' (lvM ms Φ) ∧ JX P E ops (i :: ((tkM ms Φ).map (·.i) ++ S)) (lvM ms Φ) ⟨n, env', own', F, D⟩ Q) Q)) : JX P E ops S Φ ⟨n, env, own, F, D⟩ Q := fun hw hF => by
  have hlt : i < ops.size := (Array.getElem?_eq_some_iff.1 ho).1
  have hp := tl_perm ms Φ
  intro fuel
  induction fuel with
  | zero =>
    intro L bs A a w hc hcf
    exfalso
    have hi : L.getD i true = false := by
      rw [getD_same (by rw [hcf.size]; exact hlt)]
      exact hcf.no i (fun h => by rw [memB_iff.2 h] at hS; cases hS) fun φ hφ he => by rw [memB_iff.2 (List.mem_map.2 ⟨φ, hφ, he⟩)] at hΦ; cases hΦ
    have := List.countP_eq_zero.1 (Nat.le_zero.1 hc) i (by simpa using hlt)
    simp [hi] at this
  | succ fuel ih =>
    intro L bs A a w hc hcf
    have hundone : L.getD i false = false := hcf.no i (fun h => by rw [memB_iff.2 h] at hS; cases hS) fun φ hφ he => by rw [memB_iff.2 (List.mem_map.2 ⟨φ, hφ, he⟩)] at hΦ; cases hΦ
    refine ⟨fun hr => ?_, fun j hj => ?_⟩
    · exfalso
      have key : ∀ j, j < ops.size → L.getD j false = true := by
        intro j
        induction j using Nat.strongRecOn with
        | _ j ihj =>
          intro hjl
          cases hL : L.getD j false with
          | true => rfl
          | false =>
            exfalso
            obtain ⟨oj, hoj⟩ : ∃ oj, ops[j]? = some oj := ⟨_, Array.getElem?_eq_getElem hjl⟩
            have : j ∈ Region.ready .any ops L := ready_mem hcf.size hoj (by rw [getD_same (by rw [hcf.size]; exact hjl)]; exact hL) fun e he hb => by
              have hon := backB_lt hbk (i := j) (o := oj) (by simpa using hoj) e he hb
              exact ihj e.on (by omega) (by omega)
            rw [hr] at this
            cases this
      rw [key i hlt] at hundone; cases hundone
    · obtain ⟨hjl, oj, hoj, hunj, hdeps⟩ := mem_ready hj
      have hunj' : L.getD j false = false := by rw [← getD_same (by rw [hcf.size]; exact hjl)]; exact hunj
      by_cases hjΦ : ∃ φ ∈ Φ, φ.i = j
      · obtain ⟨φ, hφ, rfl⟩ := hjΦ
        exact hcf.run hw hF hφ hunj' hjl (fun o' ho' => by rw [hoj] at ho'; cases ho'; exact hdeps) fun bs' A' a' w' hcf' => ih _ bs' A' a' w' (cnt_run hcf.size hjl hunj hc) hcf'
      · have hji : j = i := by
          by_cases he : j = i
          · exact he
          · exfalso
            have h1 := List.all_eq_true.1 hblk j (by simpa using hjl)
            have h2 : memB j S = false := by
              cases hb : memB j S with
              | false => rfl
              | true => rw [hcf.yes j (memB_iff.1 hb)] at hunj'; cases hunj'
            have h3 : memB j (Φ.map (·.i)) = false := by
              cases hb : memB j (Φ.map (·.i)) with
              | false => rfl
              | true =>
                obtain ⟨φ, hφ, hφi⟩ := List.mem_map.1 (memB_iff.1 hb)
                exact absurd ⟨φ, hφ, hφi⟩ hjΦ
            have h4 : Nat.beq j i = false := by
              cases hb : Nat.beq j i with
              | false => rfl
              | true => exact absurd (Nat.eq_of_beq_eq_true hb) he
            have h5 : ops.toList[j]? = some oj := by simpa using hoj
            rw [h2, h3, h4, h5] at h1
            simp only [Bool.false_or] at h1
            obtain ⟨e, he, hb⟩ := List.any_eq_true.1 h1
            simp only [Bool.and_eq_true, Bool.not_eq_true'] at hb
            have h6 := hdeps e (by simpa using he) hb.1.1
            rw [hcf.no e.on (fun h => by rw [memB_iff.2 h] at hb; simp at hb) fun φ hφ hφi => by
              have := hb.2
              rw [memB_iff.2 (List.mem_map.2 ⟨φ, hφ, hφi⟩)] at this; cases this] at h6
            cases h6
        subst hji
        rw [ho] at hoj; cases hoj
        -- what it waits for has been done
        have hland : ∀ φ ∈ tkM ms Φ, L.getD φ.i false = true := fun φ hφ => lndB_done hcf.clo hdeps _ _ (fun o' h => by cases h) hlnd φ.i (List.mem_map.2 ⟨φ, hφ, rfl⟩)
        have hmem : ∀ φ, φ ∈ Φ ↔ φ ∈ tkM ms Φ ∨ φ ∈ lvM ms Φ := fun φ => by rw [hp.mem_iff, List.mem_append]
        obtain ⟨pe, hpe⟩ : ∃ pe, pe = vlF bs ((lvM ms Φ).filter fun φ => L.getD φ.i false) := ⟨_, rfl⟩
        have hndd : ((tkM ms Φ ++ lvM ms Φ).map (·.d)).Nodup := (hp.map _).nodup_iff.1 hw.ndd
        rw [List.map_append, List.nodup_append] at hndd
        have hnd : ((tkM ms Φ ++ lvM ms Φ).map (·.i)).Nodup := (hp.map _).nodup_iff.1 hw.nd
        rw [List.map_append, List.nodup_append] at hnd
        have hsat0 : SatA E A ⟨n, vlF bs (tkM ms Φ) ++ (env ++ pe), own ++ (bxF bs (tkM ms Φ) ++ exF L bs (lvM ms Φ)), F, D⟩ a w := by
          have h1 := hcf.sat.perm (List.Perm.append_left own ((exF_perm (L := L) (bs := bs) hp).trans (by rw [exF_append, exF_done hland])))
          refine ⟨h1.size, h1.defers, h1.keep, h1.hp, fun s x hl => ?_, h1.facts⟩
          rcases lk_vlF hl with ⟨φ, hφ, rfl, rfl⟩ | hl
          · exact hcf.val φ ((hmem φ).2 (.inl hφ)) (hland φ hφ)
          · rw [lk_append] at hl
            rcases hl with hl | ⟨_, hl⟩
            · exact hcf.sat.env s x hl
            · rw [hpe] at hl
              rcases lk_vlF (env := []) (by rw [List.append_nil]; exact hl) with ⟨φ, hφ, rfl, rfl⟩ | hl
              · rw [List.mem_filter] at hφ
                exact hcf.val φ ((hmem φ).2 (.inr hφ.1)) hφ.2
              · simp [lk] at hl
        have hl := h bs pe (exF L bs (lvM ms Φ)) a w ⟨A, hsat0⟩
        have hK : ∀ a' w', wpListIn (fen E.rd) 0 P ops (lift E (thenQ (fun s => ∃ ev env' own', s.n = n ∧ s.env = env' ++ pe ∧ s.facts = F ∧ s.dfs = D ∧ env' = ev ++ (vlF bs (tkM ms Φ) ++ env) ∧ ev.all (fun p => o.dst == some p.1) = true ∧ Reown s.own (own' ++ exF L bs (lvM ms Φ)) ∧
            (match o.dst with | some d => (Φ.all fun φ => !Nat.beq φ.d d) = true ∧ lk env d = none | none => True) ∧ okO own' (lvM ms Φ) ∧ JX P E ops (j :: ((tkM ms Φ).map (·.i) ++ S)) (lvM ms Φ) ⟨n, env', own', F, D⟩ Q) Q)) [] a' w' → wpAnyIn (fen E.rd) 0 P .any ops (lift E Q) fuel (L.setIfInBounds j true) a' w' := by
          rintro a' w' ⟨⟨n', env2, own2, F', D'⟩, ⟨ev, env', own', rfl, rfl, rfl, rfl, rfl, hev, hre, hdd, hoO, hX⟩, A', hsA⟩
          have hevd : ∀ s x, lk ev s = some x → o.dst = some s := fun s x hl' => by
            have := List.all_eq_true.1 hev _ (lk_mem _ _ _ hl')
            simpa using this
          have hlts : j < L.size := by rw [hcf.size]; exact hlt
          have hset : ∀ z, (L.setIfInBounds j true).getD z false = if z = j then true else L.getD z false := fun z => getD_set _ _ _ hlts _
          have hnot : ∀ φ ∈ Φ, φ.i ≠ j := fun φ hφ he => by rw [memB_iff.2 (List.mem_map.2 ⟨φ, hφ, he⟩)] at hΦ; cases hΦ
          have hevΦ : ∀ φ ∈ Φ, lk ev φ.d = none := fun φ hφ => by
            cases hle : lk ev φ.d with
            | none => rfl
            | some x =>
              have hd' := hevd _ _ hle
              rw [hd'] at hdd
              have := List.all_eq_true.1 hdd.1 φ hφ
              simp at this
          have hold : ∀ s y, lk env s = some y → lk (ev ++ (vlF bs (tkM ms Φ) ++ env)) s = some y := fun s y hl' => by
            rw [lk_append]
            have h1 : lk ev s = none := by
              cases hle : lk ev s with
              | none => rfl
              | some x =>
                have hd' := hevd _ _ hle
                rw [hd'] at hdd
                simp only at hdd
                rw [hdd.2] at hl'; cases hl'
            refine .inr ⟨h1, ?_⟩
            rw [lk_vlF_none fun φ hφ he => ?_]
            · exact hl'
            · rw [← he, hw.ne φ ((hmem φ).2 (.inl hφ))] at hl'; cases hl'
          have hexs : exF (L.setIfInBounds j true) bs (lvM ms Φ) = exF L bs (lvM ms Φ) := exF_congr fun φ hφ => ⟨by rw [hset, if_neg (hnot φ ((hmem φ).2 (.inr hφ)))], rfl⟩
          refine hX ⟨hnd.2.1, hndd.2.1, fun φ hφ hm => ?_, fun φ hφ => ?_⟩ (fun φ hφ => ?_) fuel _ bs A' a' w' (cnt_run hcf.size hlt hunj hc) ⟨by simpa using hcf.size, fun z hz => ?_, fun z hz1 hz2 => ?_, fun z oz hoz hLz e he hb => ?_, ?_, fun φ hφ hLφ => ?_⟩
          · rcases List.mem_cons.1 hm with hm | hm
            · exact hnot φ ((hmem φ).2 (.inr hφ)) hm
            · rcases List.mem_append.1 hm with hm | hm
              · exact hnd.2.2 _ hm _ (List.mem_map.2 ⟨φ, hφ, rfl⟩) rfl
              · exact hw.ns φ ((hmem φ).2 (.inr hφ)) hm
          · have hφΦ := (hmem φ).2 (.inr hφ)
            show lk (ev ++ (vlF bs (tkM ms Φ) ++ env)) φ.d = none
            cases hle : lk (ev ++ (vlF bs (tkM ms Φ) ++ env)) φ.d with
            | none => rfl
            | some y =>
              rw [lk_append] at hle
              rcases hle with hle | ⟨_, hle⟩
              · rw [hevΦ φ hφΦ] at hle; cases hle
              · rw [lk_vlF_none fun ψ hψ he => hndd.2.2 _ (List.mem_map.2 ⟨ψ, hψ, rfl⟩) _ (List.mem_map.2 ⟨φ, hφ, rfl⟩) he] at hle
                rw [hw.ne φ hφΦ] at hle; cases hle
          · obtain ⟨o', ho', hd', hdn', hm'⟩ := hF φ ((hmem φ).2 (.inr hφ))
            refine ⟨o', ho', hd', hdn', ?_⟩
            split at hm'
            · exact hm'
            · obtain ⟨e, he, _, hs⟩ := hm'
              refine ⟨e, fun s y hl' => ?_, okO_get hoO φ hφ, fun own2 _ hO2 => hs own2 (fun hf => ?_) hO2⟩
              · rcases he s y hl' with h1 | ⟨ψ, hψ, rfl, hψv, hψd⟩
                · exact .inl (hold s y h1)
                · rcases (hmem ψ).1 hψ with hψ' | hψ'
                  · left
                    rw [lk_append]
                    refine .inr ⟨hevΦ ψ hψ, ?_⟩
                    rw [lk_vlF_mem hndd.1 hψ']
                    unfold Flt.val
                    rw [hψv]
                  · exact .inr ⟨ψ, hψ', rfl, hψv, hψd⟩
              · have := List.all_eq_true.1 hfre φ hφ
                rw [hf] at this; cases this
          · rw [hset]
            split
            · rfl
            · rename_i hne
              rcases List.mem_cons.1 hz with hz | hz
              · exact absurd hz hne
              · rcases List.mem_append.1 hz with hz | hz
                · obtain ⟨φ, hφ, rfl⟩ := List.mem_map.1 hz
                  exact hland φ hφ
                · exact hcf.yes z hz
          · rw [hset, if_neg (fun h => hz1 (by simp [h]))]
            refine hcf.no z (fun h => hz1 (by simp [h])) fun φ hφ he => ?_
            rcases (hmem φ).1 hφ with h' | h'
            · exact hz1 (by rw [← he]; exact List.mem_cons_of_mem _ (List.mem_append_left _ (List.mem_map.2 ⟨φ, h', rfl⟩)))
            · exact hz2 φ h' he
          · rw [hset] at hLz ⊢
            split
            · rfl
            · by_cases hzj : z = j
              · subst hzj; rw [ho] at hoz; cases hoz; exact hdeps e he hb
              · rw [if_neg hzj] at hLz; exact hcf.clo z oz hoz hLz e he hb
          · rw [hexs]
            exact ⟨hsA.size, hsA.defers, hsA.keep, hsA.hp.reown hre, fun s y hl' => hsA.env s y (by rw [lk_append]; exact .inl hl'), hsA.facts⟩
          · rw [hset, if_neg (hnot φ ((hmem φ).2 (.inr hφ)))] at hLφ
            refine hsA.env φ.d (φ.val bs) ?_
            have hφΦ := (hmem φ).2 (.inr hφ)
            rw [lk_append]
            refine .inr ⟨?_, ?_⟩
            · show lk (ev ++ (vlF bs (tkM ms Φ) ++ env)) φ.d = none
              cases hle : lk (ev ++ (vlF bs (tkM ms Φ) ++ env)) φ.d with
              | none => rfl
              | some y =>
                rw [lk_append] at hle
                rcases hle with hle | ⟨_, hle⟩
                · rw [hevΦ φ hφΦ] at hle; cases hle
                · rw [lk_vlF_none fun ψ hψ he => hndd.2.2 _ (List.mem_map.2 ⟨ψ, hψ, rfl⟩) _ (List.mem_map.2 ⟨φ, hφ, rfl⟩) he] at hle
                  rw [hw.ne φ hφΦ] at hle; cases hle
            · rw [hpe]
              have := lk_vlF_mem (bs := bs) (env := []) (Φ := (lvM ms Φ).filter fun φ => L.getD φ.i false) (φ := φ) ((List.filter_sublist.map _).nodup hndd.2.1) (List.mem_filter.2 ⟨hφ, hLφ⟩)
              rwa [List.append_nil] at this
        unfold wpOpIn
        simp only [ho]
        unfold wpListIn at hl
        split
        · rename_i hw'
          rw [if_pos hw'] at hl
          exact Oper.wpIn_monoQ (fun ch a w h => lift_q (by intro h; cases h) h) (fun h => by first | exact fun a w => lift_q (by intro h; cases h) (h a w) | exact h) (Oper.wpIn_mono hK hl)
        · rename_i hw'
          rw [if_neg hw'] at hl
          exact ⟨hl.1, hK _ _ hl.2⟩
theorem FOk.more {Φ : List Flt} {φ ψ : Flt} (h : FOk P E ops n env own F D Φ φ) : FOk P E ops n env own F D (ψ :: Φ) φ := by
  obtain ⟨o, h1, h2, h3, h4⟩ := h
  refine ⟨o, h1, h2, h3, ?_⟩
  split at h4
  · exact h4
  · obtain ⟨e, he, hO, hs⟩ := h4
    refine ⟨e, fun s y hl => (he s y hl).imp id fun ⟨χ, k1, k2⟩ => ⟨χ, by simp [k1], k2⟩, hO, hs⟩
theorem JX.add {S : List Nat} {Φ : List Flt} (φ : Flt) (hS : memB φ.i S = false) (hΦ : memB φ.i (Φ.map (·.i)) = false) (hdd : (Φ.all fun ψ => !Nat.beq ψ.d φ.d) = true) (hne : lk env φ.d = none) (hok : FOk P E ops n env own F D (φ :: Φ) φ) (h : JX P E ops S (φ :: Φ) ⟨n, env, own, F, D⟩ Q) : JX P E ops S Φ ⟨n, env, own, F, D⟩ Q := fun hw hF fuel L bs A a w hc hcf => by
  have hun : L.getD φ.i false = false := hcf.no _ (fun h => by rw [memB_iff.2 h] at hS; cases hS) fun ψ hψ he => by rw [memB_iff.2 (List.mem_map.2 ⟨ψ, hψ, he⟩)] at hΦ; cases hΦ
  refine h ⟨?_, ?_, ?_, ?_⟩ (fun ψ hψ => ?_) fuel L bs A a w hc ⟨hcf.size, hcf.yes, fun i h1 h2 => hcf.no i h1 fun ψ hψ => h2 ψ (by simp [hψ]), hcf.clo, ?_, fun ψ hψ hL => ?_⟩
  · rw [List.map_cons, List.nodup_cons]
    exact ⟨fun h => (by rw [memB_iff.2 h] at hΦ; cases hΦ), hw.nd⟩
  · rw [List.map_cons, List.nodup_cons]
    refine ⟨fun h => ?_, hw.ndd⟩
    obtain ⟨ψ, hψ, he⟩ := List.mem_map.1 h
    have := List.all_eq_true.1 hdd ψ hψ
    rw [he] at this
    simp at this
  · intro ψ hψ
    rcases List.mem_cons.1 hψ with rfl | hψ
    · exact fun h => by rw [memB_iff.2 h] at hS; cases hS
    · exact hw.ns ψ hψ
  · intro ψ hψ
    rcases List.mem_cons.1 hψ with rfl | hψ
    · exact hne
    · exact hw.ne ψ hψ
  · rcases List.mem_cons.1 hψ with rfl | hψ
    · exact hok
    · exact (hF ψ hψ).more
  · have : exF L bs (φ :: Φ) = exF L bs Φ := by
      have : φ.ex L bs = [] := by unfold Flt.ex; split <;> simp [hun]
      simp [exF, this]
    rw [this]; exact hcf.sat
  · rcases List.mem_cons.1 hψ with rfl | hψ
    · rw [hun] at hL; cases hL
    · exact hcf.val ψ hψ hL
def selF (sl : List Nat) : List Flt → List (Nat × AV)
  | [] => []
  | ⟨_, d, .inl x, _, _⟩ :: Φ => match memB d sl with | true => (d, x) :: selF sl Φ | false => selF sl Φ
  | ⟨_, _, .inr _, _, _⟩ :: Φ => selF sl Φ
def chkF (o : Oper) (sl : List Nat) : List Flt → Bool
  | [] => true
  | ⟨i, d, .inl _, _, _⟩ :: Φ => (!memB d sl || depsOk o [i]) && chkF o sl Φ
  | ⟨_, _, .inr _, _, _⟩ :: Φ => chkF o sl Φ
theorem selF_get {o : Oper} {sl : List Nat} {env : List (Nat × AV)} : ∀ {Φ : List Flt}, chkF o sl Φ = true → ∀ s y, lk (selF sl Φ ++ env) s = some y → lk env s = some y ∨ ∃ ψ ∈ Φ, ψ.d = s ∧ ψ.v = .inl y ∧ depsOk o [ψ.i] = true
  | [], _, s, y, h => .inl (by simpa [selF] using h)
  | ⟨i, d, .inl x, fr, O⟩ :: Φ, hc, s, y, h => by
    unfold chkF at hc
    rw [Bool.and_eq_true, Bool.or_eq_true] at hc
    have hrec : lk (selF sl Φ ++ env) s = some y → lk env s = some y ∨ ∃ ψ ∈ (⟨i, d, .inl x, fr, O⟩ :: Φ : List Flt), ψ.d = s ∧ ψ.v = .inl y ∧ depsOk o [ψ.i] = true := fun h => (selF_get hc.2 s y h).imp id fun ⟨ψ, h1, h2⟩ => ⟨ψ, by simp [h1], h2⟩
    unfold selF at h
    split at h
    · rename_i hb
      rcases lk_cons h with ⟨rfl, rfl⟩ | ⟨_, h⟩
      · refine .inr ⟨_, List.mem_cons_self, rfl, rfl, ?_⟩
        have := hc.1
        rw [hb] at this
        simpa using this
      · exact hrec h
    · exact hrec h
  | ⟨i, d, .inr z, fr, O⟩ :: Φ, hc, s, y, h => (selF_get (sl := sl) (Φ := Φ) hc s y h).imp id fun ⟨ψ, h1, h2⟩ => ⟨ψ, by simp [h1], h2⟩
/-- A quiet one begins to float. -/
theorem JX.q {S : List Nat} {Φ : List Flt} {o : Oper} {d : Nat} {x : AV} (i : Nat) (sl : List Nat) (ho : ops[i]? = some o) (hd : o.dst = some d) (hn : Nat.blt d n = true) (hS : memB i S = false) (hΦ : memB i (Φ.map (·.i)) = false) (hdd : (Φ.all fun ψ => !Nat.beq ψ.d d) = true) (hne : lk env d = none) (hc : chkF o sl Φ = true)
    (hs : ∀ ex, Step P E ops ⟨n, selF sl Φ ++ env, own ++ ex, F, D⟩ o x) (h : JX P E ops S (⟨i, d, .inl x, false, none⟩ :: Φ) ⟨n, env, own, F, D⟩ Q) : JX P E ops S Φ ⟨n, env, own, F, D⟩ Q :=
  .add ⟨i, d, .inl x, false, none⟩ hS hΦ hdd hne ⟨o, ho, hd, blt_lt hn, selF sl Φ ++ env, fun s y hl => (selF_get hc s y hl).imp id fun ⟨ψ, h1, h2⟩ => ⟨ψ, by simp [h1], h2⟩, (fun k en h => by cases h), fun own' h _ => by obtain ⟨ex, rfl⟩ := h rfl; exact hs ex⟩ h
/-- One that reads nothing that is owned. -/
theorem JX.f {S : List Nat} {Φ : List Flt} {o : Oper} {d : Nat} {x : AV} (i : Nat) (sl : List Nat) (ho : ops[i]? = some o) (hd : o.dst = some d) (hn : Nat.blt d n = true) (hS : memB i S = false) (hΦ : memB i (Φ.map (·.i)) = false) (hdd : (Φ.all fun ψ => !Nat.beq ψ.d d) = true) (hne : lk env d = none) (hc : chkF o sl Φ = true)
    (hs : ∀ own', Step P E ops ⟨n, selF sl Φ ++ env, own', F, D⟩ o x) (h : JX P E ops S (⟨i, d, .inl x, true, none⟩ :: Φ) ⟨n, env, own, F, D⟩ Q) : JX P E ops S Φ ⟨n, env, own, F, D⟩ Q :=
  .add ⟨i, d, .inl x, true, none⟩ hS hΦ hdd hne ⟨o, ho, hd, blt_lt hn, selF sl Φ ++ env, fun s y hl => (selF_get hc s y hl).imp id fun ⟨ψ, h1, h2⟩ => ⟨ψ, by simp [h1], h2⟩, (fun k en h => by cases h), fun own' _ _ => hs own'⟩ h
/-- One that reads one entry of what is owned. -/
theorem JX.o {S : List Nat} {Φ : List Flt} {o : Oper} {d : Nat} {x : AV} {en : Own} (i : Nat) (k : Nat) (sl : List Nat) (ho : ops[i]? = some o) (hd : o.dst = some d) (hn : Nat.blt d n = true) (hS : memB i S = false) (hΦ : memB i (Φ.map (·.i)) = false) (hdd : (Φ.all fun ψ => !Nat.beq ψ.d d) = true) (hne : lk env d = none) (hc : chkF o sl Φ = true) (hk : own[k]? = some en)
    (hs : ∀ own', own'[k]? = some en → Step P E ops ⟨n, selF sl Φ ++ env, own', F, D⟩ o x) (h : JX P E ops S (⟨i, d, .inl x, true, some (k, en)⟩ :: Φ) ⟨n, env, own, F, D⟩ Q) : JX P E ops S Φ ⟨n, env, own, F, D⟩ Q :=
  .add ⟨i, d, .inl x, true, some (k, en)⟩ hS hΦ hdd hne ⟨o, ho, hd, blt_lt hn, selF sl Φ ++ env, fun s y hl => (selF_get hc s y hl).imp id fun ⟨ψ, h1, h2⟩ => ⟨ψ, by simp [h1], h2⟩, (fun k' en' h => by cases h; exact hk), fun own' _ h => hs own' (h k en rfl)⟩ h
/-- A new variable. -/
theorem JX.a {S : List Nat} {Φ : List Flt} {o : Oper} {d : Nat} {z : List AV} (i : Nat) (ho : ops[i]? = some o) (ha : AllocOp P o d z) (hn : Nat.blt d n = true) (hS : memB i S = false) (hΦ : memB i (Φ.map (·.i)) = false) (hdd : (Φ.all fun ψ => !Nat.beq ψ.d d) = true) (hne : lk env d = none)
    (h : JX P E ops S (⟨i, d, .inr z, true, none⟩ :: Φ) ⟨n, env, own, F, D⟩ Q) : JX P E ops S Φ ⟨n, env, own, F, D⟩ Q :=
  .add ⟨i, d, .inr z, true, none⟩ hS hΦ hdd hne ⟨o, ho, ha.dst, blt_lt hn, ha⟩ h
/-- All are settled, or float: they come up, and the region ends. -/
theorem JX.fin {S : List Nat} {Φ : List Flt} (hbk : backB 0 ops.toList = true) (hall : ((List.range ops.size).all fun i => memB i S || memB i (Φ.map (·.i))) = true) (h : ∀ bs, Q .normal ⟨n, vlF bs Φ ++ env, own ++ bxF bs Φ, F, D⟩) : JX P E ops S Φ ⟨n, env, own, F, D⟩ Q := fun hw hF fuel => by
  have hend : ∀ L bs A a w, Cfg E ops n env own F D S Φ L bs A a w → (∀ j, j < ops.size → L.getD j false = true) → lift E Q .normal a w := fun L bs A a w hcf hd => by
    have hdn : ∀ φ ∈ Φ, L.getD φ.i false = true := fun φ hφ => by
      obtain ⟨o, ho, _⟩ := hF φ hφ
      exact hd _ (Array.getElem?_eq_some_iff.1 ho).1
    refine ⟨_, h bs, A, hcf.sat.size, hcf.sat.defers, hcf.sat.keep, by rw [← exF_done hdn]; exact hcf.sat.hp, fun s x hl => ?_, hcf.sat.facts⟩
    rcases lk_vlF hl with ⟨φ, hφ, rfl, rfl⟩ | hl
    · exact hcf.val φ hφ (hdn φ hφ)
    · exact hcf.sat.env s x hl
  have hdone : ∀ L bs A a w, Cfg E ops n env own F D S Φ L bs A a w → Region.ready .any ops L = [] → ∀ j, j < ops.size → L.getD j false = true := by
    intro L bs A a w hcf hr j
    induction j using Nat.strongRecOn with
    | _ j ihj =>
      intro hjl
      cases hL : L.getD j false with
      | true => rfl
      | false =>
        exfalso
        obtain ⟨oj, hoj⟩ : ∃ oj, ops[j]? = some oj := ⟨_, Array.getElem?_eq_getElem hjl⟩
        have : j ∈ Region.ready .any ops L := ready_mem hcf.size hoj (by rw [getD_same (by rw [hcf.size]; exact hjl)]; exact hL) fun e he hb => by
          have hon := backB_lt hbk (i := j) (o := oj) (by simpa using hoj) e he hb
          exact ihj e.on (by omega) (by omega)
        rw [hr] at this
        cases this
  induction fuel with
  | zero =>
    intro L bs A a w hc hcf
    have hnil : Region.ready .any ops L = [] := by
      rw [List.eq_nil_iff_forall_not_mem]
      intro i hi
      obtain ⟨hlt, o, ho, hun, _⟩ := mem_ready hi
      have := List.countP_eq_zero.1 (Nat.le_zero.1 hc) i (by simpa using hlt)
      simp [hun] at this
    exact ⟨hnil, hend L bs A a w hcf (hdone L bs A a w hcf hnil)⟩
  | succ fuel ih =>
    intro L bs A a w hc hcf
    refine ⟨fun hr => hend L bs A a w hcf (hdone L bs A a w hcf hr), fun j hj => ?_⟩
    obtain ⟨hjl, oj, hoj, hunj, hdeps⟩ := mem_ready hj
    have hunj' : L.getD j false = false := by rw [← getD_same (by rw [hcf.size]; exact hjl)]; exact hunj
    have h1 := List.all_eq_true.1 hall j (by simpa using hjl)
    rw [Bool.or_eq_true] at h1
    rcases h1 with h1 | h1
    · rw [hcf.yes j (memB_iff.1 h1)] at hunj'; cases hunj'
    · obtain ⟨φ, hφ, rfl⟩ := List.mem_map.1 (memB_iff.1 h1)
      exact hcf.run hw hF hφ hunj' hjl (fun o' ho' => by rw [hoj] at ho'; cases ho'; exact hdeps) fun bs' A' a' w' hcf' => ih _ bs' A' a' w' (cnt_run hcf.size hjl hunj hc) hcf'
theorem J.regionX {id : Nat} {l : List Oper} (hm : P.follows .mixedOrders = true) (h : JX P E l.toArray [] [] ⟨n, dropEnv (dsts l) env, own, F, D⟩ Q) : J P E (.region id l.toArray true) ⟨n, env, own, F, D⟩ Q := fun a w ⟨A, hA⟩ => by
  have h0 : ∀ i, (Array.replicate l.toArray.size false).getD i false = false := fun i => by simp only [Array.getD_eq_getD_getElem?, Array.getElem?_replicate]; split <;> simp
  have hd := hA.drawn
  refine wpIn_region_any hm (h ⟨List.nodup_nil, List.nodup_nil, fun φ h => (by cases h), fun φ h => (by cases h)⟩ (fun φ h => by cases h) l.toArray.size _ (fun _ => 0) A a _ (Nat.le_trans List.countP_le_length (by simp)) ⟨by simp, fun i h => (by cases h), fun i _ _ => h0 i, fun i o _ hL => (by rw [h0] at hL; cases hL), ?_, fun φ h => by cases h⟩)
  have : exF (Array.replicate l.toArray.size false) (fun _ => 0) [] = [] := rfl
  rw [this, List.append_nil]
  exact ⟨hd.size, hd.defers, hd.keep, hd.hp, fun s y hl => hd.env s y (lk_filter (fun k => !((dsts l).any (Nat.beq k))) env s y hl).1, hd.facts⟩
/-- The same, in the form in which the walks use it. -/
theorem JX.one {S : List Nat} {Φ : List Flt} (i : Nat) (ms : List Bool) {o : Oper} (ho : ops[i]? = some o) (hbk : backB 0 ops.toList = true) (hblk : blkB ops.toList S (Φ.map (·.i)) i = true) (hS : memB i S = false) (hΦ : memB i (Φ.map (·.i)) = false)
    (hlnd : lndB ops.toList o [] ((tkM ms Φ).map (·.i)) = true) (hfre : (lvM ms Φ).all (·.fre) = true)
    (h : ∀ bs pe ex, JL P E ops [o] ⟨n, vlF bs (tkM ms Φ) ++ (env ++ pe), own ++ (bxF bs (tkM ms Φ) ++ ex), F, D⟩ (thenQ (fun s => ∃ ev own', s.n = n ∧ s.env = ev ++ (vlF bs (tkM ms Φ) ++ (env ++ pe)) ∧ s.facts = F ∧ s.dfs = D ∧ ev.all (fun p => o.dst == some p.1) = true ∧ Reown s.own (own' ++ ex) ∧
      (match o.dst with | some d => (Φ.all fun φ => !Nat.beq φ.d d) = true ∧ lk env d = none | none => True) ∧ okO own' (lvM ms Φ) ∧ JX P E ops (i :: ((tkM ms Φ).map (·.i) ++ S)) (lvM ms Φ) ⟨n, ev ++ (vlF bs (tkM ms Φ) ++ env), own', F, D⟩ Q) Q)) : JX P E ops S Φ ⟨n, env, own, F, D⟩ Q :=
  .step i ms ho hbk hblk hS hΦ hlnd hfre fun bs pe ex a w hs => by
    have := h bs pe ex a w hs
    refine wpListIn_monoN this fun a' w' ⟨s, ⟨ev, own', h1, h2, h3, h4, h5, h6, h7, h8, h9⟩, hs'⟩ => ⟨s, ⟨ev, _, own', h1, by rw [h2]; simp, h3, h4, rfl, h5, h6, h7, h8, h9⟩, hs'⟩
theorem JX.conv {S S' : List Nat} {Φ Φ' : List Flt} {st st' : St} (hS : S = S') (hΦ : Φ = Φ') (hst : st = st') (h : JX P E ops S' Φ' st' Q) : JX P E ops S Φ st Q := by subst hS hΦ hst; exact h
theorem QX.conv {Q : Exit → St → Prop} {st st' : St} (h : st = st') (k : Q .normal st') : Q .normal st := h ▸ k
theorem Reown.tkN (k : Nat) {l ex : List Own} (h : l.drop k = ex) : Reown l (l.take k ++ ex) := .ofEq (by subst h; exact (List.take_append_drop k l).symm)
/-- What is owned behind a call. -/
theorem Reown.mrgN (k : Nat) {ms : List Cd} {ps l ex : List Own} (h : l.drop k = ex) (hl : Nat.ble ms.length (l.take k).length = true) : Reown (mrg ms ps l) (mrg ms ps (l.take k) ++ ex) := by
  have := Reown.perm (mrg_frame ms ps (l.take k) ex (Nat.le_of_ble_eq_true hl))
  rw [← h, List.take_append_drop] at this
  rw [← h]; exact this
end
end Go.Proofs.Ytkiankpmkglhcaa.J

/- Walks: the page sets a part of a value by a path. -/
namespace Go.Proofs.Ytkiankpmkglhcaa.J
open Go Go.RowKit
set_option linter.unusedVariables false
set_option linter.unusedSimpArgs false
set_option maxRecDepth 10000
set_option maxHeartbeats 4000000
theorem Reown.ord {ok arrI okx oix kids ok3 oi3 ob oa : Own} (h : Reown [kids] [ok3, oi3, ob, oa]) : Reown [ok, arrI, okx, oix, kids] [ok, arrI, ob, oa, ok3, oi3, okx, oix] := by
  refine (Reown.left (c := [ok, arrI, okx, oix]) h).trans ⟨fun y => by simp only [fps_cons, fps_nil, List.count_append, List.count_nil, List.cons_append, List.nil_append]; omega, fun w A h => ?_⟩
  simp only [List.forall_mem_cons, List.cons_append, List.nil_append, List.not_mem_nil, false_implies, implies_true, and_true] at h ⊢
  obtain ⟨q1, q2, q3, q4, q5, q6, q7, q8⟩ := h
  exact ⟨q1, q2, q7, q8, q5, q6, q3, q4⟩
theorem Reown.put4 (arrI ob oa okw oiw z : Own) : Reown [arrI, ob, oa, okw, oiw, z] [.grp [arrI, .grp [ob, .grp [.grp [okw, oiw], oa]]]] := by
  refine ⟨fun y => by simp only [fps_cons, fps_nil, fp_grp, List.count_append, List.count_nil]; omega, fun w A h => ?_⟩
  simp only [List.forall_mem_cons, ok_grp, List.not_mem_nil, false_implies, implies_true, and_true] at h ⊢
  obtain ⟨q1, q4, q5, q6, q7, q8⟩ := h
  exact ⟨q1, q4, ⟨q6, q7⟩, q5⟩
theorem V.set_cons {v x : V} {s t : StT} {r : List StT} {i : Nat} {e : Int} (h : v.fnd s = (i, e)) : v.set (s :: t :: r) x = if e ≠ 0 then (.nil, e) else if ((v.kid i).set (t :: r) x).2 ≠ 0 then (.nil, ((v.kid i).set (t :: r) x).2) else (v.setAt i ((v.kid i).set (t :: r) x).1, 0) := by
  rw [V.set]
  simp only [h]
theorem rset_n  : ∀ (n : Nat) {p : List StT} {fr2 cl2 : Bool} {v x : V} {kv iv kx ix : Value} {ok oi okx oix : Own}, VTr v kv iv ok oi → VTr x kx ix okx oix → v.Fine → v.wf → x.wf → p.length * 32 ≤ reach ∧ (∀ s ∈ p, s.wf) → p.length < n → AC Try.prog 81 [ok, oi, okx, oix] [.agg (v.raw kv iv), .sl fr2 cl2 eSt (StT.css p), .agg (x.raw kx ix)] (RetR (SetR (v.set p x))) := by
  intro n
  induction n with
  | zero => intro p fr2 cl2 v x kv iv kx ix ok oi okx oix hV hX hf hw hxw hp hn; exact absurd hn (Nat.not_lt_zero _)
  | succ n ih =>
    intro p fr2 cl2 v x kv iv kx ix ok oi okx oix hV hX hf hw hxw hp hn
    obtain ⟨hp80, hpw⟩ := hp
    have hpl : p.length ≤ 4398046511104 := by unfold reach at hp80; omega
    refine AC.of_J Try.func81 rfl Try.ntmps81 rfl fun w0 A0 => ?_
    refine J.seq ?_
    refine J.region_lit ?_
    refine JL.box_agg (.tmp rfl) rfl fun b3 => ?_
    refine JL.box_agg (.tmp rfl) rfl fun b5 => ?_
    refine JL.alloc z26 rfl rfl fun b6 => ?_
    refine JL.q rfl rfl rfl (QW.assign .const) ?_
    refine JL.nil ?_
    refine thenQ.n ?_
    refine J.seq ?_
    refine J.seq ?_
    refine J.region_lit ?_
    refine JL.q rfl rfl rfl (QW.move (.tmp rfl)) ?_
    refine JL.q rfl rfl rfl (by first | exact QW.len_slE sl39 (.tmp rfl) (keysAV_length _) | exact QW.len_slE sl39 (.tmp rfl) (V.css_length _ _) | exact QW.len_slE sl39 (.tmp rfl) (StT.css_length _) | exact QW.len_sl sl39 (.tmp rfl) | exact QW.len_nil sl39 (.tmp rfl)) ?_
    refine JL.q rfl rfl rfl (QW.eql (.tmp rfl) .const) ?_
    refine JL.nil ?_
    refine thenQ.n ?_
    refine J.cond (.tmp rfl) (fun c1 => ?_) (fun c1 => ?_)
    · skip
      obtain rfl : p = [] := by (cases p with | nil => rfl | cons s r => simp at c1; omega)
      refine J.seq ?_
      refine J.region_lit ?_
      refine JL.q rfl rfl rfl (by first | exact QW.load_box 1 ty26 (.tmp rfl) rfl rfl rfl | exact QW.load_box 1 ty26 (.tmp rfl) rfl (take_at (V.cs_length _ _) rfl) (V.cs_length _ _)) ?_
      first | refine JL.store_boxF 0 ty26 (.tmp rfl) rfl (.tmp rfl) (by first | rfl | assumption) (rfl) (rfl) rfl ?_ | refine JL.store_boxF 0 ty26 (.tmp rfl) rfl (.tmp rfl) (by first | rfl | assumption) (rfl) (V.cs_length _ _) rfl ?_ | refine JL.store_boxF 0 ty26 (.tmp rfl) rfl (.tmp rfl) (by first | rfl | assumption) (V.cs_length _ _) (rfl) rfl ?_ | refine JL.store_boxF 0 ty26 (.tmp rfl) rfl (.tmp rfl) (by first | rfl | assumption) (V.cs_length _ _) (V.cs_length _ _) rfl ?_ | refine JL.store_box 0 ty26 (.tmp rfl) rfl (.tmp rfl) (by first | rfl | assumption) rfl rfl rfl rfl ?_ | refine JL.store_box 0 ty26 (.tmp rfl) rfl (.tmp rfl) (by first | rfl | assumption) (V.cs_length _ _) rfl rfl rfl ?_
      refine JL.q rfl rfl rfl (QW.assign .const) ?_
      refine JL.nil ?_
      refine thenQ.n ?_
      refine J.ret ?_
      refine thenQ.r ?_
      exact ⟨_, selP [.k, .k, .k, .k, .k, .p, .p] _, _, RetEv.two rfl (by first | exact REv.cell 0 ty26 rfl rfl rfl rfl (.refl _) | exact REv.cell 0 ty26 rfl rfl (take_at (V.cs_length _ _) rfl) (V.cs_length _ _) (.refl _)) (REv.tmp rfl (.refl _)), rfl, sel_perm [.k, .k, .k, .k, .k, .p, .p] _, ⟨_, rfl, SetR.yes (u := x) (e := 0) (kw := kx) (iw := ix) rfl rfl hX⟩⟩
    · skip
      obtain ⟨s, r, rfl⟩ : ∃ s r, p = s :: r := by (cases p with | nil => simp at c1 | cons s r => exact ⟨s, r, rfl⟩)
      have hsw := hpw s (by simp)
      refine J.skip ?_
      refine thenQ.n ?_
      refine J.seq ?_
      refine J.seq ?_
      refine J.region_lit ?_
      refine JL.q rfl rfl rfl (QW.move (.tmp rfl)) ?_
      refine JL.q rfl rfl rfl (by first | exact QW.len_slE sl39 (.tmp rfl) (keysAV_length _) | exact QW.len_slE sl39 (.tmp rfl) (V.css_length _ _) | exact QW.len_slE sl39 (.tmp rfl) (StT.css_length _) | exact QW.len_sl sl39 (.tmp rfl) | exact QW.len_nil sl39 (.tmp rfl)) ?_
      refine JL.q rfl rfl rfl (QW.eql (.tmp rfl) .const) ?_
      refine JL.nil ?_
      refine thenQ.n ?_
      refine J.cond (.tmp rfl) (fun c2 => ?_) (fun c2 => ?_)
      · skip
        obtain rfl : r = [] := by (cases r with | nil => rfl | cons s r => simp at c2; omega)
        refine J.seq ?_
        refine J.regionX mixed ?_
        refine JX.o 0 2 [] rfl rfl rfl rfl rfl rfl rfl rfl rfl (fun ow_ ho_ => (.q rfl (by first | exact QW.load_box 2 ty26 (.tmp rfl) ho_ rfl rfl | exact QW.load_box 2 ty26 (.tmp rfl) ho_ (take_at (V.cs_length _ _) rfl) (V.cs_length _ _)))) ?_
        refine JX.f 1 [] rfl rfl rfl rfl rfl rfl rfl rfl (fun ow_ => (.q rfl (QW.move (.tmp rfl)))) ?_
        refine JX.f 2 [20] rfl rfl rfl rfl rfl rfl rfl rfl (fun ow_ => (.q rfl (QW.index_sl (m := 0) sl39 ty48 rfl (.tmp rfl) .const rfl (by exact StT.css_getE (l := [s]) (i := 0) (by simp))))) ?_
        refine JX.f 3 [21] rfl rfl rfl rfl rfl rfl rfl rfl (fun ow_ => (.q rfl (by first | exact QW.load_ref ty48 (.tmp rfl) rfl rfl | exact QW.load_ref ty48 (.tmp rfl) (take_at0 (rfl) rfl) (rfl)))) ?_
        refine JX.o 4 1 [] rfl rfl rfl rfl rfl rfl rfl rfl rfl (fun ow_ ho_ => (.q rfl (by first | exact QW.load_box 1 ty26 (.tmp rfl) ho_ rfl rfl | exact QW.load_box 1 ty26 (.tmp rfl) ho_ (take_at (V.cs_length _ _) rfl) (V.cs_length _ _)))) ?_
        refine JX.one 5 [true, true, true, true, true] rfl (by kernel_rfl) (by kernel_rfl) rfl rfl (by kernel_rfl) rfl fun bs5_ pe_ ex_ => ?_
        refine JL.conv (by (try simp only [vlF, bxF, tkM, lvM, Flt.val, Flt.bx, List.append_assoc, List.take_succ_cons, List.take_zero, List.append_eq, id_eq, stepsO, List.map_cons, List.map_nil, valO, nthO, curO, mrg, List.reverse_cons, List.reverse_nil, List.nil_append, List.cons_append, List.append_nil, List.getElem?_cons_zero, List.getElem?_cons_succ, Option.map_some, Option.getD_some, List.set_cons_zero, List.set_cons_succ, AV.cellsOf, splice_zero, splice_succ, Nat.zero_add, Nat.reduceAdd]); rfl) ?_
        refine JL.callRF [.k, .k, .k, .p, .p, .p, .p] gofn113 rfl Lent.nil (fun _ => (.cons (.tmp rfl) (.cons (.tmp rfl) (.cons (.tmp rfl) .nil)))) (put_ok (s := s) hV hX hf hw hsw) (.inl rfl) fun x24 o24 h24 => ?_
        obtain ⟨kv24, iv24, ok24, oi24, rfl, rfl, hV24⟩ := h24
        refine JL.nil ?_
        refine thenQ.n ⟨[_], _, rfl, rfl, rfl, rfl, rfl, Reown.mrgN 7 rfl rfl, ⟨rfl, rfl⟩, trivial, ?_⟩
        refine JX.conv (S' := [5, 4, 3, 2, 1, 0]) rfl (by (try simp only [lvM]); rfl) (by (try simp only [vlF, bxF, tkM, lvM, Flt.val, Flt.bx, List.append_assoc, List.take_succ_cons, List.take_zero, List.append_eq, id_eq, stepsO, List.map_cons, List.map_nil, valO, nthO, curO, mrg, List.reverse_cons, List.reverse_nil, List.nil_append, List.cons_append, List.append_nil, List.getElem?_cons_zero, List.getElem?_cons_succ, Option.map_some, Option.getD_some, List.set_cons_zero, List.set_cons_succ, AV.cellsOf, splice_zero, splice_succ, Nat.zero_add, Nat.reduceAdd]); rfl) ?_
        refine JX.f 6 [24] rfl rfl rfl rfl rfl rfl rfl rfl (fun ow_ => (.q rfl (QW.extract (.tmp rfl) rfl))) ?_
        refine JX.f 7 [24] rfl rfl rfl rfl rfl rfl rfl rfl (fun ow_ => (.q rfl (QW.extract (.tmp rfl) rfl))) ?_
        refine JX.one 8 [true, true] rfl (by kernel_rfl) (by kernel_rfl) rfl rfl (by kernel_rfl) rfl fun bs8_ pe_ ex_ => ?_
        refine JL.conv (by (try simp only [vlF, bxF, tkM, lvM, Flt.val, Flt.bx, List.append_assoc, List.take_succ_cons, List.take_zero, List.append_eq, id_eq, stepsO, List.map_cons, List.map_nil, valO, nthO, curO, mrg, List.reverse_cons, List.reverse_nil, List.nil_append, List.cons_append, List.append_nil, List.getElem?_cons_zero, List.getElem?_cons_succ, Option.map_some, Option.getD_some, List.set_cons_zero, List.set_cons_succ, AV.cellsOf, splice_zero, splice_succ, Nat.zero_add, Nat.reduceAdd]); rfl) ?_
        first | refine JL.store_boxF 0 ty26 (.tmp rfl) rfl (.tmp rfl) (by first | rfl | assumption) (rfl) (rfl) rfl ?_ | refine JL.store_boxF 0 ty26 (.tmp rfl) rfl (.tmp rfl) (by first | rfl | assumption) (rfl) (V.cs_length _ _) rfl ?_ | refine JL.store_boxF 0 ty26 (.tmp rfl) rfl (.tmp rfl) (by first | rfl | assumption) (V.cs_length _ _) (rfl) rfl ?_ | refine JL.store_boxF 0 ty26 (.tmp rfl) rfl (.tmp rfl) (by first | rfl | assumption) (V.cs_length _ _) (V.cs_length _ _) rfl ?_ | refine JL.store_box 0 ty26 (.tmp rfl) rfl (.tmp rfl) (by first | rfl | assumption) rfl rfl rfl rfl ?_ | refine JL.store_box 0 ty26 (.tmp rfl) rfl (.tmp rfl) (by first | rfl | assumption) (V.cs_length _ _) rfl rfl rfl ?_
        refine JL.nil ?_
        refine thenQ.n ⟨[], _, rfl, rfl, rfl, rfl, rfl, Reown.tkN 5 rfl, trivial, trivial, ?_⟩
        refine JX.conv (S' := [8, 7, 6, 5, 4, 3, 2, 1, 0]) rfl (by (try simp only [lvM]); rfl) (by (try simp only [vlF, bxF, tkM, lvM, Flt.val, Flt.bx, List.append_assoc, List.take_succ_cons, List.take_zero, List.append_eq, id_eq, stepsO, List.map_cons, List.map_nil, valO, nthO, curO, mrg, List.reverse_cons, List.reverse_nil, List.nil_append, List.cons_append, List.append_nil, List.getElem?_cons_zero, List.getElem?_cons_succ, Option.map_some, Option.getD_some, List.set_cons_zero, List.set_cons_succ, AV.cellsOf, splice_zero, splice_succ, Nat.zero_add, Nat.reduceAdd]); rfl) ?_
        refine JX.f 9 [26] rfl rfl rfl rfl rfl rfl rfl rfl (fun ow_ => (.q rfl (QW.assign (.tmp rfl)))) ?_
        refine JX.fin (by kernel_rfl) (by kernel_rfl) fun bs_ => ?_
        refine QX.conv (by (try simp only [vlF, bxF, tkM, lvM, Flt.val, Flt.bx, List.append_assoc, List.take_succ_cons, List.take_zero, List.append_eq, id_eq, stepsO, List.map_cons, List.map_nil, valO, nthO, curO, mrg, List.reverse_cons, List.reverse_nil, List.nil_append, List.cons_append, List.append_nil, List.getElem?_cons_zero, List.getElem?_cons_succ, Option.map_some, Option.getD_some, List.set_cons_zero, List.set_cons_succ, AV.cellsOf, splice_zero, splice_succ, Nat.zero_add, Nat.reduceAdd]); rfl) ?_
        refine thenQ.n ?_
        refine J.ret ?_
        refine thenQ.r ?_
        exact ⟨_, selP [.k, .k, .k, .p, .p] _, _, RetEv.two rfl (by first | exact REv.cell 0 ty26 rfl rfl rfl rfl (.refl _) | exact REv.cell 0 ty26 rfl rfl (take_at (V.cs_length _ _) rfl) (V.cs_length _ _) (.refl _)) (REv.tmp rfl (.refl _)), rfl, sel_perm [.k, .k, .k, .p, .p] _, ⟨_, rfl, ⟨kv24, iv24, ok24, oi24, rfl, rfl, hV24⟩⟩⟩
      · skip
        obtain ⟨t, r, rfl⟩ : ∃ t q, r = t :: q := by (cases r with | nil => simp at c2 | cons s r => exact ⟨s, r, rfl⟩)
        obtain ⟨i, e, hie⟩ : ∃ i e, v.fnd s = (i, e) := ⟨_, _, rfl⟩
        have hsc := V.set_cons (x := x) (t := t) (r := r) hie
        refine J.skip ?_
        refine thenQ.n ?_
        refine J.seq ?_
        refine J.regionX mixed ?_
        refine JX.o 0 2 [] rfl rfl rfl rfl rfl rfl rfl rfl rfl (fun ow_ ho_ => (.q rfl (by first | exact QW.load_box 2 ty26 (.tmp rfl) ho_ rfl rfl | exact QW.load_box 2 ty26 (.tmp rfl) ho_ (take_at (V.cs_length _ _) rfl) (V.cs_length _ _)))) ?_
        refine JX.f 1 [] rfl rfl rfl rfl rfl rfl rfl rfl (fun ow_ => (.q rfl (QW.move (.tmp rfl)))) ?_
        refine JX.f 2 [29] rfl rfl rfl rfl rfl rfl rfl rfl (fun ow_ => (.q rfl (QW.index_sl (m := 0) sl39 ty48 rfl (.tmp rfl) .const rfl (by exact StT.css_getE (l := s :: t :: r) (i := 0) (by simp))))) ?_
        refine JX.f 3 [30] rfl rfl rfl rfl rfl rfl rfl rfl (fun ow_ => (.q rfl (by first | exact QW.load_ref ty48 (.tmp rfl) rfl rfl | exact QW.load_ref ty48 (.tmp rfl) (take_at0 (rfl) rfl) (rfl)))) ?_
        refine JX.q 4 [28, 31] rfl rfl rfl rfl rfl rfl rfl rfl (fun ex_ => (.q rfl (QW.callLF [.k, .k, .k, .l, .l] gofn78 (Lent.cons (hV.lentK) (Lent.cons (hV.lentI) Lent.nil)) rfl (by first | rfl | simp [mrg]) (fun _ => (.cons (Ev.le (.tmp rfl) (V.raw_le (by simp) (by simp))) (.cons (.tmp rfl) .nil))) (plcAt (fr := false) hie hf.part hsw) (.tup (FlL.cons (.c _) (FlL.cons (.c _) .nil)))))) ?_
        refine JX.f 5 [32] rfl rfl rfl rfl rfl rfl rfl rfl (fun ow_ => (.q rfl (QW.move (.tmp rfl)))) ?_
        refine JX.f 6 [27] rfl rfl rfl rfl rfl rfl rfl rfl (fun ow_ => (.q rfl (QW.extract (.tmp rfl) rfl))) ?_
        refine JX.f 7 [27] rfl rfl rfl rfl rfl rfl rfl rfl (fun ow_ => (.q rfl (QW.extract (.tmp rfl) rfl))) ?_
        refine JX.f 8 [33] rfl rfl rfl rfl rfl rfl rfl rfl (fun ow_ => (.q rfl (QW.assign (.tmp rfl)))) ?_
        refine JX.f 9 [34] rfl rfl rfl rfl rfl rfl rfl rfl (fun ow_ => (.q rfl (QW.assign (.tmp rfl)))) ?_
        refine JX.fin (by kernel_rfl) (by kernel_rfl) fun bs_ => ?_
        refine QX.conv (by (try simp only [vlF, bxF, tkM, lvM, Flt.val, Flt.bx, List.append_assoc, List.take_succ_cons, List.take_zero, List.append_eq, id_eq, stepsO, List.map_cons, List.map_nil, valO, nthO, curO, mrg, List.reverse_cons, List.reverse_nil, List.nil_append, List.cons_append, List.append_nil, List.getElem?_cons_zero, List.getElem?_cons_succ, Option.map_some, Option.getD_some, List.set_cons_zero, List.set_cons_succ, AV.cellsOf, splice_zero, splice_succ, Nat.zero_add, Nat.reduceAdd]); rfl) ?_
        refine thenQ.n ?_
        refine J.seq ?_
        refine J.seq ?_
        refine J.region_lit ?_
        refine JL.q rfl rfl rfl (QW.move (.tmp rfl)) ?_
        refine JL.q rfl rfl rfl (QW.neq (.tmp rfl) .const) ?_
        refine JL.nil ?_
        refine thenQ.n ?_
        refine J.cond (.tmp rfl) (fun c3 => ?_) (fun c3 => ?_)
        · skip
          have he0 : e ≠ 0 := by simpa using c3
          refine J.seq ?_
          refine J.reown (Reown.nilGrpE _) ?_
          refine J.reown (Reown.nilGrpE _) ?_
          refine J.region_lit ?_
          refine JL.q rfl rfl rfl (QW.build (idx := []) pl26 z26 rfl .nil rfl rfl rfl rfl) ?_
          refine JL.q rfl rfl rfl (QW.move (.tmp rfl)) ?_
          first | refine JL.store_boxF 0 ty26 (.tmp rfl) rfl (.tmp rfl) (by first | rfl | assumption) (rfl) (rfl) rfl ?_ | refine JL.store_boxF 0 ty26 (.tmp rfl) rfl (.tmp rfl) (by first | rfl | assumption) (rfl) (V.cs_length _ _) rfl ?_ | refine JL.store_boxF 0 ty26 (.tmp rfl) rfl (.tmp rfl) (by first | rfl | assumption) (V.cs_length _ _) (rfl) rfl ?_ | refine JL.store_boxF 0 ty26 (.tmp rfl) rfl (.tmp rfl) (by first | rfl | assumption) (V.cs_length _ _) (V.cs_length _ _) rfl ?_ | refine JL.store_box 0 ty26 (.tmp rfl) rfl (.tmp rfl) (by first | rfl | assumption) rfl rfl rfl rfl ?_ | refine JL.store_box 0 ty26 (.tmp rfl) rfl (.tmp rfl) (by first | rfl | assumption) (V.cs_length _ _) rfl rfl rfl ?_
          refine JL.q rfl rfl rfl (QW.assign (.tmp rfl)) ?_
          refine JL.nil ?_
          refine thenQ.n ?_
          refine J.ret ?_
          refine thenQ.r ?_
          exact ⟨_, selP [.k, .k, .k, .k, .k, .k, .k, .p, .p] _, _, RetEv.two rfl (by first | exact REv.cell 0 ty26 rfl rfl rfl rfl (.refl _) | exact REv.cell 0 ty26 rfl rfl (take_at (V.cs_length _ _) rfl) (V.cs_length _ _) (.refl _)) (REv.tmp rfl (.refl _)), rfl, sel_perm [.k, .k, .k, .k, .k, .k, .k, .p, .p] _, ⟨_, rfl, SetR.no (e := e) (by rw [hsc, if_pos he0])⟩⟩
        · skip
          have he0 : e = 0 := by simpa using c3
          have hil : i < v.items.length := by have := V.fnd_lt (v := v) (s := s) hf.part (by rw [hie]; exact he0); rwa [hie] at this
          rw [V.kid_eq hil, if_neg (by simp [he0])] at hsc
          refine J.skip ?_
          refine thenQ.n ?_
          refine J.seq ?_
          obtain ⟨ci, ui, o2, q1, q2, q3, q4, q5, q6⟩ := hV.is.inv
          rw [V.css_length] at q2
          refine J.reown (Reown.split2 (i := 4) rfl q6) ?_
          obtain ⟨kv3, iv3, ok3, oi3, ob, oa, u1, u3, e1, e3, e4, e5, e6, e7, e8, e9, e10⟩ := kids_at hil q2 q3 q1 q4 q5
          have ihh := ih (p := t :: r) (fr2 := fr2) (cl2 := cl2) e3 hX (hf.kid (List.getElem_mem hil)) (hw.kid (List.getElem_mem hil)) hxw ⟨Nat.le_trans (Nat.mul_le_mul_right _ (Nat.le_succ (t :: r).length)) hp80, fun z hz => hpw z (List.mem_cons_of_mem _ hz)⟩ (Nat.lt_of_succ_lt_succ hn)
          refine J.reown (Reown.cons (Reown.cons (Reown.cons (Reown.ord e10)))) ?_
          refine J.regionX mixed ?_
          refine JX.f 0 [] rfl rfl rfl rfl rfl rfl rfl rfl (fun ow_ => (.q rfl (QW.field_ptr fo26_4 (.tmp rfl) rfl))) ?_
          refine JX.o 1 2 [40] rfl rfl rfl rfl rfl rfl rfl rfl rfl (fun ow_ ho_ => (.q rfl (QW.load_box1 2 ty24 (.tmp rfl) ho_ rfl))) ?_
          refine JX.f 2 [] rfl rfl rfl rfl rfl rfl rfl rfl (fun ow_ => (.q rfl (QW.conv (QW.move (.tmp rfl)) (by rw [if_pos he0])))) ?_
          refine JX.q 3 [41, 42] rfl rfl rfl rfl rfl rfl rfl rfl (fun ex_ => (.q rfl (QW.index_arr 4 sl24 ty26 rfl (.tmp rfl) rfl (.tmp rfl) (by first | rfl | omega | (simp; done)) (by omega) rfl))) ?_
          refine JX.q 4 [43] rfl rfl rfl rfl rfl rfl rfl rfl (fun ex_ => (.q rfl (by first | exact QW.load_gp 4 ty26 (.tmp rfl) rfl (by exact e1) rfl rfl rfl | exact QW.load_gp (o := 0) 4 ty26 (.tmp rfl) rfl (by exact e1) rfl rfl rfl | exact QW.load_gp (o := 1) 4 ty26 (.tmp rfl) rfl (by exact e1) rfl rfl rfl | exact QW.load_gp (o := 2) 4 ty26 (.tmp rfl) rfl (by exact e1) rfl rfl rfl | exact QW.load_gp 4 ty26 (.tmp rfl) rfl (by exact e1) rfl (take_full (V.cs_length _ _)) (V.cs_length _ _)))) ?_
          refine JX.f 5 [] rfl rfl rfl rfl rfl rfl rfl rfl (fun ow_ => (.q rfl (QW.move (.tmp rfl)))) ?_
          refine JX.f 6 [45] rfl rfl rfl rfl rfl rfl rfl rfl (fun ow_ => (.q rfl (QW.slice_L (l := 1) sl39 ty48 rfl (.tmp rfl) .const rfl (by simp [StT.css_length])))) ?_
          refine JX.o 7 1 [] rfl rfl rfl rfl rfl rfl rfl rfl rfl (fun ow_ ho_ => (.q rfl (by first | exact QW.load_box 1 ty26 (.tmp rfl) ho_ rfl rfl | exact QW.load_box 1 ty26 (.tmp rfl) ho_ (take_at (V.cs_length _ _) rfl) (V.cs_length _ _)))) ?_
          refine JX.a 12 rfl (AllocOp.mk z26 rfl) rfl rfl rfl rfl rfl ?_
          refine JX.one 8 [false, true, true, true, true, true, true, true, true] rfl (by kernel_rfl) (by kernel_rfl) rfl rfl (by kernel_rfl) rfl fun bs8_ pe_ ex_ => ?_
          refine JL.conv (by (try simp only [vlF, bxF, tkM, lvM, Flt.val, Flt.bx, List.append_assoc, List.take_succ_cons, List.take_zero, List.append_eq, id_eq, stepsO, List.map_cons, List.map_nil, valO, nthO, curO, mrg, List.reverse_cons, List.reverse_nil, List.nil_append, List.cons_append, List.append_nil, List.getElem?_cons_zero, List.getElem?_cons_succ, Option.map_some, Option.getD_some, List.set_cons_zero, List.set_cons_succ, AV.cellsOf, splice_zero, splice_succ, Nat.zero_add, Nat.reduceAdd]); rfl) ?_
          refine JL.callRF [.k, .k, .k, .k, .k, .k, .k, .p, .p, .p, .p] gofn81 rfl Lent.nil (fun _ => (.cons (.tmp rfl) (.cons (Ev.le (.tmp rfl) (Le.eqv (show AV.sl fr2 cl2 eSt ((StT.css (s :: t :: r)).drop 1) = AV.sl fr2 cl2 eSt (StT.css (t :: r)) from rfl))) (.cons (.tmp rfl) .nil)))) (ihh) (.inl rfl) fun x48 o48 h48 => ?_
          obtain ⟨kv48, iv48, ok48, oi48, rfl, rfl, hV48⟩ := h48
          refine JL.nil ?_
          refine thenQ.n ⟨[_], _, rfl, rfl, rfl, rfl, rfl, Reown.mrgN 11 rfl rfl, ⟨rfl, rfl⟩, ⟨trivial, trivial⟩, ?_⟩
          refine JX.conv (S' := [8, 7, 6, 5, 4, 3, 2, 1, 0]) rfl (by (try simp only [lvM]); rfl) (by (try simp only [vlF, bxF, tkM, lvM, Flt.val, Flt.bx, List.append_assoc, List.take_succ_cons, List.take_zero, List.append_eq, id_eq, stepsO, List.map_cons, List.map_nil, valO, nthO, curO, mrg, List.reverse_cons, List.reverse_nil, List.nil_append, List.cons_append, List.append_nil, List.getElem?_cons_zero, List.getElem?_cons_succ, Option.map_some, Option.getD_some, List.set_cons_zero, List.set_cons_succ, AV.cellsOf, splice_zero, splice_succ, Nat.zero_add, Nat.reduceAdd]); rfl) ?_
          refine JX.f 9 [48] rfl rfl rfl rfl rfl rfl rfl rfl (fun ow_ => (.q rfl (QW.move (.tmp rfl)))) ?_
          refine JX.f 10 [39] rfl rfl rfl rfl rfl rfl rfl rfl (fun ow_ => (.q rfl (QW.extract (.tmp rfl) rfl))) ?_
          refine JX.f 11 [39] rfl rfl rfl rfl rfl rfl rfl rfl (fun ow_ => (.q rfl (QW.extract (.tmp rfl) rfl))) ?_
          refine JX.one 13 [false, true, true, true] rfl (by kernel_rfl) (by kernel_rfl) rfl rfl (by kernel_rfl) rfl fun bs13_ pe_ ex_ => ?_
          refine JL.conv (by (try simp only [vlF, bxF, tkM, lvM, Flt.val, Flt.bx, List.append_assoc, List.take_succ_cons, List.take_zero, List.append_eq, id_eq, stepsO, List.map_cons, List.map_nil, valO, nthO, curO, mrg, List.reverse_cons, List.reverse_nil, List.nil_append, List.cons_append, List.append_nil, List.getElem?_cons_zero, List.getElem?_cons_succ, Option.map_some, Option.getD_some, List.set_cons_zero, List.set_cons_succ, AV.cellsOf, splice_zero, splice_succ, Nat.zero_add, Nat.reduceAdd]); rfl) ?_
          first | refine JL.store_boxF 9 ty26 (.tmp rfl) rfl (.tmp rfl) (by first | rfl | assumption) (rfl) (rfl) rfl ?_ | refine JL.store_boxF 9 ty26 (.tmp rfl) rfl (.tmp rfl) (by first | rfl | assumption) (rfl) (V.cs_length _ _) rfl ?_ | refine JL.store_boxF 9 ty26 (.tmp rfl) rfl (.tmp rfl) (by first | rfl | assumption) (V.cs_length _ _) (rfl) rfl ?_ | refine JL.store_boxF 9 ty26 (.tmp rfl) rfl (.tmp rfl) (by first | rfl | assumption) (V.cs_length _ _) (V.cs_length _ _) rfl ?_ | refine JL.store_box 9 ty26 (.tmp rfl) rfl (.tmp rfl) (by first | rfl | assumption) rfl rfl rfl rfl ?_ | refine JL.store_box 9 ty26 (.tmp rfl) rfl (.tmp rfl) (by first | rfl | assumption) (V.cs_length _ _) rfl rfl rfl ?_
          refine JL.nil ?_
          refine thenQ.n ⟨[], _, rfl, rfl, rfl, rfl, rfl, Reown.tkN 10 rfl, trivial, ⟨trivial, trivial⟩, ?_⟩
          refine JX.conv (S' := [13, 10, 9, 12, 8, 7, 6, 5, 4, 3, 2, 1, 0]) rfl (by (try simp only [lvM]); rfl) (by (try simp only [vlF, bxF, tkM, lvM, Flt.val, Flt.bx, List.append_assoc, List.take_succ_cons, List.take_zero, List.append_eq, id_eq, stepsO, List.map_cons, List.map_nil, valO, nthO, curO, mrg, List.reverse_cons, List.reverse_nil, List.nil_append, List.cons_append, List.append_nil, List.getElem?_cons_zero, List.getElem?_cons_succ, Option.map_some, Option.getD_some, List.set_cons_zero, List.set_cons_succ, AV.cellsOf, splice_zero, splice_succ, Nat.zero_add, Nat.reduceAdd]); rfl) ?_
          refine JX.f 14 [50] rfl rfl rfl rfl rfl rfl rfl rfl (fun ow_ => (.q rfl (QW.assign (.tmp rfl)))) ?_
          refine JX.fin (by kernel_rfl) (by kernel_rfl) fun bs_ => ?_
          refine QX.conv (by (try simp only [vlF, bxF, tkM, lvM, Flt.val, Flt.bx, List.append_assoc, List.take_succ_cons, List.take_zero, List.append_eq, id_eq, stepsO, List.map_cons, List.map_nil, valO, nthO, curO, mrg, List.reverse_cons, List.reverse_nil, List.nil_append, List.cons_append, List.append_nil, List.getElem?_cons_zero, List.getElem?_cons_succ, Option.map_some, Option.getD_some, List.set_cons_zero, List.set_cons_succ, AV.cellsOf, splice_zero, splice_succ, Nat.zero_add, Nat.reduceAdd]); rfl) ?_
          refine thenQ.n ?_
          refine J.seq ?_
          refine J.seq ?_
          refine J.region_lit ?_
          refine JL.q rfl rfl rfl (QW.move (.tmp rfl)) ?_
          refine JL.q rfl rfl rfl (QW.neq (.tmp rfl) .const) ?_
          refine JL.nil ?_
          refine thenQ.n ?_
          refine J.cond (.tmp rfl) (fun c4 => ?_) (fun c4 => ?_)
          · skip
            have hs0 : ((v.items[i]'hil).set (t :: r) x).2 ≠ 0 := by simpa using c4
            refine J.seq ?_
            refine J.reown (Reown.nilGrpE _) ?_
            refine J.reown (Reown.nilGrpE _) ?_
            refine J.region_lit ?_
            refine JL.q rfl rfl rfl (QW.build (idx := []) pl26 z26 rfl .nil rfl rfl rfl rfl) ?_
            refine JL.q rfl rfl rfl (QW.move (.tmp rfl)) ?_
            first | refine JL.store_boxF 0 ty26 (.tmp rfl) rfl (.tmp rfl) (by first | rfl | assumption) (rfl) (rfl) rfl ?_ | refine JL.store_boxF 0 ty26 (.tmp rfl) rfl (.tmp rfl) (by first | rfl | assumption) (rfl) (V.cs_length _ _) rfl ?_ | refine JL.store_boxF 0 ty26 (.tmp rfl) rfl (.tmp rfl) (by first | rfl | assumption) (V.cs_length _ _) (rfl) rfl ?_ | refine JL.store_boxF 0 ty26 (.tmp rfl) rfl (.tmp rfl) (by first | rfl | assumption) (V.cs_length _ _) (V.cs_length _ _) rfl ?_ | refine JL.store_box 0 ty26 (.tmp rfl) rfl (.tmp rfl) (by first | rfl | assumption) rfl rfl rfl rfl ?_ | refine JL.store_box 0 ty26 (.tmp rfl) rfl (.tmp rfl) (by first | rfl | assumption) (V.cs_length _ _) rfl rfl rfl ?_
            refine JL.q rfl rfl rfl (QW.assign (.tmp rfl)) ?_
            refine JL.nil ?_
            refine thenQ.n ?_
            refine J.ret ?_
            refine thenQ.r ?_
            exact ⟨_, selP [.k, .k, .k, .k, .k, .k, .k, .k, .k, .k, .p, .p] _, _, RetEv.two rfl (by first | exact REv.cell 0 ty26 rfl rfl rfl rfl (.refl _) | exact REv.cell 0 ty26 rfl rfl (take_at (V.cs_length _ _) rfl) (V.cs_length _ _) (.refl _)) (REv.tmp rfl (.refl _)), rfl, sel_perm [.k, .k, .k, .k, .k, .k, .k, .k, .k, .k, .p, .p] _, ⟨_, rfl, SetR.no (e := _) (by rw [hsc, if_pos hs0])⟩⟩
          · skip
            have hs0 : ((v.items[i]'hil).set (t :: r) x).2 = 0 := by simpa using c4
            refine J.skip ?_
            refine thenQ.n ?_
            refine J.seq ?_
            skip
            refine J.region_lit ?_
            refine JL.q rfl rfl rfl (QW.field_ptr fo26_4 (.tmp rfl) rfl) ?_
            refine JL.q rfl rfl rfl (QW.load_box1 2 ty24 (.tmp rfl) rfl rfl) ?_
            refine JL.q rfl rfl rfl (QW.conv (QW.move (.tmp rfl)) (by rw [if_pos he0])) ?_
            refine JL.q rfl rfl rfl (by first | exact QW.load_box 9 ty26 (.tmp rfl) rfl rfl rfl | exact QW.load_box 9 ty26 (.tmp rfl) rfl (take_at (V.cs_length _ _) rfl) (V.cs_length _ _)) ?_
            refine JL.q rfl rfl rfl (QW.index_arr 4 sl24 ty26 rfl (.tmp rfl) rfl (.tmp rfl) (by first | rfl | omega | (simp; done)) (by omega) rfl) ?_
            refine JL.store_gp 4 ty26 (.tmp rfl) rfl e1 rfl (.tmp rfl) rfl rfl rfl (congrArg (List.set _ _) (splice_all rfl)) rfl ?_
            refine JL.nil ?_
            refine thenQ.n ?_
            refine J.seq ?_
            refine J.reown (Reown.cons (Reown.cons (Reown.cons (Reown.cons (Reown.put4 _ _ _ _ _ _))))) ?_
            refine J.region_lit ?_
            refine JL.q rfl rfl rfl (by first | exact QW.load_box 2 ty26 (.tmp rfl) rfl rfl rfl | exact QW.load_box 2 ty26 (.tmp rfl) rfl (take_at (V.cs_length _ _) rfl) (V.cs_length _ _)) ?_
            first | refine JL.store_boxF 0 ty26 (.tmp rfl) rfl (.tmp rfl) (by first | rfl | assumption) (rfl) (rfl) rfl ?_ | refine JL.store_boxF 0 ty26 (.tmp rfl) rfl (.tmp rfl) (by first | rfl | assumption) (rfl) (V.cs_length _ _) rfl ?_ | refine JL.store_boxF 0 ty26 (.tmp rfl) rfl (.tmp rfl) (by first | rfl | assumption) (V.cs_length _ _) (rfl) rfl ?_ | refine JL.store_boxF 0 ty26 (.tmp rfl) rfl (.tmp rfl) (by first | rfl | assumption) (V.cs_length _ _) (V.cs_length _ _) rfl ?_ | refine JL.store_box 0 ty26 (.tmp rfl) rfl (.tmp rfl) (by first | rfl | assumption) rfl rfl rfl rfl ?_ | refine JL.store_box 0 ty26 (.tmp rfl) rfl (.tmp rfl) (by first | rfl | assumption) (V.cs_length _ _) rfl rfl rfl ?_
            refine JL.q rfl rfl rfl (QW.assign .const) ?_
            refine JL.nil ?_
            refine thenQ.n ?_
            refine J.ret ?_
            exact ⟨_, selP [.k, .k, .k, .p, .p] _, _, RetEv.two rfl (by first | exact REv.cell 0 ty26 rfl rfl rfl rfl (.refl _) | exact REv.cell 0 ty26 rfl rfl (take_at (V.cs_length _ _) rfl) (V.cs_length _ _) (.refl _)) (REv.tmp rfl (.refl _)), rfl, sel_perm [.k, .k, .k, .p, .p] _, ⟨_, rfl, SetR.yes (u := v.setAt i ((v.items[i]'hil).set (t :: r) x).1) (e := 0) (kw := kv) (iw := iv) (by rw [hsc, if_neg (by simp [hs0])]) rfl (VTr.setAt hw hV.k1 hV.i1 hV.ks hil q2 q3 e4 e5 e6 e7 e8 e9 hV48)⟩⟩
end Go.Proofs.Ytkiankpmkglhcaa.J

/- Walks: the page sets a part; what is alive. -/
namespace Go.Proofs.Ytkiankpmkglhcaa.J
open Go Go.RowKit
set_option linter.unusedVariables false
set_option linter.unusedSimpArgs false
set_option maxRecDepth 10000
set_option maxHeartbeats 4000000
theorem rset_ok {fr fr2 cl2 : Bool} {v x : V} {p : List StT} {ys zs : List AV} (hv : Vc fr v ys) (hx : Vc fr x zs) (hw : v.wf) (hxw : x.wf) (hp : p.length * 32 ≤ reach ∧ ∀ s ∈ p, s.wf) : Fn Try.prog 31 [.agg ys, .sl fr2 cl2 eSt (StT.css p), .agg zs] (setAV v p x) := by
  obtain ⟨hp80, hpw⟩ := hp
  have hpl : p.length ≤ 4398046511104 := by unfold reach at hp80; omega
  subst hv hx
  obtain ⟨w, f, hset⟩ : ∃ w f, v.set p x = (w, f) := ⟨_, _, rfl⟩
  refine AC.of_J Try.func31 rfl Try.ntmps31 rfl fun w0 A0 => ?_
  refine J.seq ?_
  refine J.region_lit ?_
  refine JL.box_agg (.tmp rfl) rfl fun b3 => ?_
  refine JL.box_agg (.tmp rfl) rfl fun b5 => ?_
  refine JL.alloc z26 rfl rfl fun b6 => ?_
  refine JL.q rfl rfl rfl (QW.assign .const) ?_
  refine JL.nil ?_
  refine thenQ.n ?_
  refine J.seq ?_
  refine J.region_lit ?_
  refine JL.q rfl rfl rfl (by first | exact QW.load_box 2 ty26 (.tmp rfl) rfl rfl rfl | exact QW.load_box 2 ty26 (.tmp rfl) rfl (take_at (V.cs_length _ _) rfl) (V.cs_length _ _)) ?_
  refine JL.q rfl rfl rfl (QW.call gofn25 (.cons (.tmp rfl) .nil) (rcheck_ok Vc.self hw)) ?_
  refine JL.q rfl rfl rfl (QW.assign (.tmp rfl)) ?_
  refine JL.nil ?_
  refine thenQ.n ?_
  refine J.seq ?_
  refine J.seq ?_
  refine J.region_lit ?_
  refine JL.q rfl rfl rfl (QW.move (.tmp rfl)) ?_
  refine JL.q rfl rfl rfl (QW.neq (.tmp rfl) .const) ?_
  refine JL.nil ?_
  refine thenQ.n ?_
  refine J.cond (.tmp rfl) (fun c1 => ?_) (fun c1 => ?_)
  · skip
    simp at c1
    refine J.seq ?_
    refine J.region_lit ?_
    refine JL.q rfl rfl rfl (QW.build (idx := []) pl26 z26 rfl .nil rfl rfl rfl rfl) ?_
    refine JL.q rfl rfl rfl (QW.move (.tmp rfl)) ?_
    first | refine JL.store_boxF 0 ty26 (.tmp rfl) rfl (.tmp rfl) (by first | rfl | assumption) (rfl) (rfl) rfl ?_ | refine JL.store_boxF 0 ty26 (.tmp rfl) rfl (.tmp rfl) (by first | rfl | assumption) (rfl) (V.cs_length _ _) rfl ?_ | refine JL.store_boxF 0 ty26 (.tmp rfl) rfl (.tmp rfl) (by first | rfl | assumption) (V.cs_length _ _) (rfl) rfl ?_ | refine JL.store_boxF 0 ty26 (.tmp rfl) rfl (.tmp rfl) (by first | rfl | assumption) (V.cs_length _ _) (V.cs_length _ _) rfl ?_ | refine JL.store_box 0 ty26 (.tmp rfl) rfl (.tmp rfl) (by first | rfl | assumption) rfl rfl rfl rfl ?_ | refine JL.store_box 0 ty26 (.tmp rfl) rfl (.tmp rfl) (by first | rfl | assumption) (V.cs_length _ _) rfl rfl rfl ?_
    refine JL.q rfl rfl rfl (QW.assign (.tmp rfl)) ?_
    refine JL.nil ?_
    refine thenQ.n ?_
    refine J.ret ?_
    refine thenQ.r ?_
    exact ⟨_, selP [.k, .k, .k] _, _, RetEv.two rfl (by first | exact REv.cell 0 ty26 rfl rfl rfl rfl (.aggL (.cons (.refl _) (.cons (.refl _) (.cons (.refl _) (.cons (.nil true false _) (.cons (.nil true false _) .nil)))))) | exact REv.cell 0 ty26 rfl rfl (take_at (V.cs_length _ _) rfl) (V.cs_length _ _) (.aggL (.cons (.refl _) (.cons (.refl _) (.cons (.refl _) (.cons (.nil true false _) (.cons (.nil true false _) .nil))))))) (REv.tmp rfl (.refl _)), rfl, sel_perm [.k, .k, .k] _, ⟨congrArg Res.ret (setAV_of (u := .nil) (e := v.err) (by rw [V.setv, if_pos c1])).symm, rfl⟩⟩
  · skip
    simp at c1
    have hv0 := c1
    refine J.skip ?_
    refine thenQ.n ?_
    refine J.seq ?_
    refine J.region_lit ?_
    refine JL.q rfl rfl rfl (by first | exact QW.load_box 1 ty26 (.tmp rfl) rfl rfl rfl | exact QW.load_box 1 ty26 (.tmp rfl) rfl (take_at (V.cs_length _ _) rfl) (V.cs_length _ _)) ?_
    refine JL.q rfl rfl rfl (QW.call gofn25 (.cons (.tmp rfl) .nil) (rcheck_ok Vc.self hxw)) ?_
    refine JL.q rfl rfl rfl (QW.assign (.tmp rfl)) ?_
    refine JL.nil ?_
    refine thenQ.n ?_
    refine J.seq ?_
    refine J.seq ?_
    refine J.region_lit ?_
    refine JL.q rfl rfl rfl (QW.move (.tmp rfl)) ?_
    refine JL.q rfl rfl rfl (QW.neq (.tmp rfl) .const) ?_
    refine JL.nil ?_
    refine thenQ.n ?_
    refine J.cond (.tmp rfl) (fun c2 => ?_) (fun c2 => ?_)
    · skip
      simp at c2
      refine J.seq ?_
      refine J.region_lit ?_
      refine JL.q rfl rfl rfl (QW.build (idx := []) pl26 z26 rfl .nil rfl rfl rfl rfl) ?_
      refine JL.q rfl rfl rfl (QW.move (.tmp rfl)) ?_
      first | refine JL.store_boxF 0 ty26 (.tmp rfl) rfl (.tmp rfl) (by first | rfl | assumption) (rfl) (rfl) rfl ?_ | refine JL.store_boxF 0 ty26 (.tmp rfl) rfl (.tmp rfl) (by first | rfl | assumption) (rfl) (V.cs_length _ _) rfl ?_ | refine JL.store_boxF 0 ty26 (.tmp rfl) rfl (.tmp rfl) (by first | rfl | assumption) (V.cs_length _ _) (rfl) rfl ?_ | refine JL.store_boxF 0 ty26 (.tmp rfl) rfl (.tmp rfl) (by first | rfl | assumption) (V.cs_length _ _) (V.cs_length _ _) rfl ?_ | refine JL.store_box 0 ty26 (.tmp rfl) rfl (.tmp rfl) (by first | rfl | assumption) rfl rfl rfl rfl ?_ | refine JL.store_box 0 ty26 (.tmp rfl) rfl (.tmp rfl) (by first | rfl | assumption) (V.cs_length _ _) rfl rfl rfl ?_
      refine JL.q rfl rfl rfl (QW.assign (.tmp rfl)) ?_
      refine JL.nil ?_
      refine thenQ.n ?_
      refine J.ret ?_
      refine thenQ.r ?_
      exact ⟨_, selP [.k, .k, .k] _, _, RetEv.two rfl (by first | exact REv.cell 0 ty26 rfl rfl rfl rfl (.aggL (.cons (.refl _) (.cons (.refl _) (.cons (.refl _) (.cons (.nil true false _) (.cons (.nil true false _) .nil)))))) | exact REv.cell 0 ty26 rfl rfl (take_at (V.cs_length _ _) rfl) (V.cs_length _ _) (.aggL (.cons (.refl _) (.cons (.refl _) (.cons (.refl _) (.cons (.nil true false _) (.cons (.nil true false _) .nil))))))) (REv.tmp rfl (.refl _)), rfl, sel_perm [.k, .k, .k] _, ⟨congrArg Res.ret (setAV_of (u := .nil) (e := x.err) (by rw [V.setv, if_neg (by simp [hv0]), if_pos c2])).symm, rfl⟩⟩
    · skip
      simp at c2
      have hx0 := c2
      have hww : w.wf := by have := V.set_wf hw (V.fine_of hv0) hpw hxw; rwa [hset] at this
      refine J.skip ?_
      refine thenQ.n ?_
      refine J.seq ?_
      refine J.regionX mixed ?_
      refine JX.o 0 2 [] rfl rfl rfl rfl rfl rfl rfl rfl rfl (fun ow_ ho_ => (.q rfl (by first | exact QW.load_box 2 ty26 (.tmp rfl) ho_ rfl rfl | exact QW.load_box 2 ty26 (.tmp rfl) ho_ (take_at (V.cs_length _ _) rfl) (V.cs_length _ _)))) ?_
      refine JX.f 2 [] rfl rfl rfl rfl rfl rfl rfl rfl (fun ow_ => (.q rfl (QW.move (.tmp rfl)))) ?_
      refine JX.o 3 1 [] rfl rfl rfl rfl rfl rfl rfl rfl rfl (fun ow_ ho_ => (.q rfl (by first | exact QW.load_box 1 ty26 (.tmp rfl) ho_ rfl rfl | exact QW.load_box 1 ty26 (.tmp rfl) ho_ (take_at (V.cs_length _ _) rfl) (V.cs_length _ _)))) ?_
      refine JX.a 9 rfl (AllocOp.mk z26 rfl) rfl rfl rfl rfl rfl ?_
      refine JX.one 1 [false, false, false, true] rfl (by kernel_rfl) (by kernel_rfl) rfl rfl (by kernel_rfl) rfl fun bs1_ pe_ ex_ => ?_
      refine JL.conv (by (try simp only [vlF, bxF, tkM, lvM, Flt.val, Flt.bx, List.append_assoc, List.take_succ_cons, List.take_zero, List.append_eq, id_eq, stepsO, List.map_cons, List.map_nil, valO, nthO, curO, mrg, List.reverse_cons, List.reverse_nil, List.nil_append, List.cons_append, List.append_nil, List.getElem?_cons_zero, List.getElem?_cons_succ, Option.map_some, Option.getD_some, List.set_cons_zero, List.set_cons_succ, AV.cellsOf, splice_zero, splice_succ, Nat.zero_add, Nat.reduceAdd]); rfl) ?_
      refine JL.callRF [] gofn79 rfl Lent.nil (fun _ => (.cons (.tmp rfl) .nil)) (rown_ok Vc.self hw) (.inl rfl) fun x26 o26 h26 => ?_
      obtain ⟨kv26, iv26, ok26, oi26, rfl, rfl, hV26⟩ := h26
      refine JL.nil ?_
      refine thenQ.n ⟨[_], _, rfl, rfl, rfl, rfl, rfl, Reown.mrgN 3 rfl rfl, ⟨rfl, rfl⟩, ⟨trivial, ⟨rfl, ⟨trivial, trivial⟩⟩⟩, ?_⟩
      refine JX.conv (S' := [1, 0]) rfl (by (try simp only [lvM]); rfl) (by (try simp only [vlF, bxF, tkM, lvM, Flt.val, Flt.bx, List.append_assoc, List.take_succ_cons, List.take_zero, List.append_eq, id_eq, stepsO, List.map_cons, List.map_nil, valO, nthO, curO, mrg, List.reverse_cons, List.reverse_nil, List.nil_append, List.cons_append, List.append_nil, List.getElem?_cons_zero, List.getElem?_cons_succ, Option.map_some, Option.getD_some, List.set_cons_zero, List.set_cons_succ, AV.cellsOf, splice_zero, splice_succ, Nat.zero_add, Nat.reduceAdd]); rfl) ?_
      refine JX.one 4 [false, true, false] rfl (by kernel_rfl) (by kernel_rfl) rfl rfl (by kernel_rfl) rfl fun bs4_ pe_ ex_ => ?_
      refine JL.conv (by (try simp only [vlF, bxF, tkM, lvM, Flt.val, Flt.bx, List.append_assoc, List.take_succ_cons, List.take_zero, List.append_eq, id_eq, stepsO, List.map_cons, List.map_nil, valO, nthO, curO, mrg, List.reverse_cons, List.reverse_nil, List.nil_append, List.cons_append, List.append_nil, List.getElem?_cons_zero, List.getElem?_cons_succ, Option.map_some, Option.getD_some, List.set_cons_zero, List.set_cons_succ, AV.cellsOf, splice_zero, splice_succ, Nat.zero_add, Nat.reduceAdd]); rfl) ?_
      refine JL.callRF [] gofn79 rfl Lent.nil (fun _ => (.cons (.tmp rfl) .nil)) (rown_ok Vc.self hxw) (.inl rfl) fun x29 o29 h29 => ?_
      obtain ⟨kv29, iv29, ok29, oi29, rfl, rfl, hV29⟩ := h29
      refine JL.nil ?_
      refine thenQ.n ⟨[_], _, rfl, rfl, rfl, rfl, rfl, Reown.mrgN 5 rfl rfl, ⟨rfl, rfl⟩, ⟨trivial, ⟨trivial, trivial⟩⟩, ?_⟩
      refine JX.conv (S' := [4, 3, 1, 0]) rfl (by (try simp only [lvM]); rfl) (by (try simp only [vlF, bxF, tkM, lvM, Flt.val, Flt.bx, List.append_assoc, List.take_succ_cons, List.take_zero, List.append_eq, id_eq, stepsO, List.map_cons, List.map_nil, valO, nthO, curO, mrg, List.reverse_cons, List.reverse_nil, List.nil_append, List.cons_append, List.append_nil, List.getElem?_cons_zero, List.getElem?_cons_succ, Option.map_some, Option.getD_some, List.set_cons_zero, List.set_cons_succ, AV.cellsOf, splice_zero, splice_succ, Nat.zero_add, Nat.reduceAdd]); rfl) ?_
      refine JX.one 5 [false, true] rfl (by kernel_rfl) (by kernel_rfl) rfl rfl (by kernel_rfl) rfl fun bs5_ pe_ ex_ => ?_
      refine JL.conv (by (try simp only [vlF, bxF, tkM, lvM, Flt.val, Flt.bx, List.append_assoc, List.take_succ_cons, List.take_zero, List.append_eq, id_eq, stepsO, List.map_cons, List.map_nil, valO, nthO, curO, mrg, List.reverse_cons, List.reverse_nil, List.nil_append, List.cons_append, List.append_nil, List.getElem?_cons_zero, List.getElem?_cons_succ, Option.map_some, Option.getD_some, List.set_cons_zero, List.set_cons_succ, AV.cellsOf, splice_zero, splice_succ, Nat.zero_add, Nat.reduceAdd]); rfl) ?_
      refine JL.callRF [.k, .k, .k, .p, .p, .p, .p] gofn81 rfl Lent.nil (fun _ => (.cons (.tmp rfl) (.cons (.tmp rfl) (.cons (.tmp rfl) .nil)))) (hset ▸ rset_n _ hV26 hV29 (V.fine_of hv0) hw hxw ⟨hp80, hpw⟩ (Nat.lt_succ_self _)) (.inl rfl) fun x30 o30 h30 => ?_
      obtain ⟨kv30, iv30, ok30, oi30, rfl, rfl, hV30⟩ := h30
      refine JL.nil ?_
      refine thenQ.n ⟨[_], _, rfl, rfl, rfl, rfl, rfl, Reown.mrgN 7 rfl rfl, ⟨rfl, rfl⟩, ⟨trivial, trivial⟩, ?_⟩
      refine JX.conv (S' := [5, 2, 4, 3, 1, 0]) rfl (by (try simp only [lvM]); rfl) (by (try simp only [vlF, bxF, tkM, lvM, Flt.val, Flt.bx, List.append_assoc, List.take_succ_cons, List.take_zero, List.append_eq, id_eq, stepsO, List.map_cons, List.map_nil, valO, nthO, curO, mrg, List.reverse_cons, List.reverse_nil, List.nil_append, List.cons_append, List.append_nil, List.getElem?_cons_zero, List.getElem?_cons_succ, Option.map_some, Option.getD_some, List.set_cons_zero, List.set_cons_succ, AV.cellsOf, splice_zero, splice_succ, Nat.zero_add, Nat.reduceAdd]); rfl) ?_
      refine JX.f 6 [30] rfl rfl rfl rfl rfl rfl rfl rfl (fun ow_ => (.q rfl (QW.move (.tmp rfl)))) ?_
      refine JX.f 7 [24] rfl rfl rfl rfl rfl rfl rfl rfl (fun ow_ => (.q rfl (QW.extract (.tmp rfl) rfl))) ?_
      refine JX.f 8 [24] rfl rfl rfl rfl rfl rfl rfl rfl (fun ow_ => (.q rfl (QW.extract (.tmp rfl) rfl))) ?_
      refine JX.one 10 [false, true, true, true] rfl (by kernel_rfl) (by kernel_rfl) rfl rfl (by kernel_rfl) rfl fun bs10_ pe_ ex_ => ?_
      refine JL.conv (by (try simp only [vlF, bxF, tkM, lvM, Flt.val, Flt.bx, List.append_assoc, List.take_succ_cons, List.take_zero, List.append_eq, id_eq, stepsO, List.map_cons, List.map_nil, valO, nthO, curO, mrg, List.reverse_cons, List.reverse_nil, List.nil_append, List.cons_append, List.append_nil, List.getElem?_cons_zero, List.getElem?_cons_succ, Option.map_some, Option.getD_some, List.set_cons_zero, List.set_cons_succ, AV.cellsOf, splice_zero, splice_succ, Nat.zero_add, Nat.reduceAdd]); rfl) ?_
      first | refine JL.store_boxF 5 ty26 (.tmp rfl) rfl (.tmp rfl) (by first | rfl | assumption) (rfl) (rfl) rfl ?_ | refine JL.store_boxF 5 ty26 (.tmp rfl) rfl (.tmp rfl) (by first | rfl | assumption) (rfl) (V.cs_length _ _) rfl ?_ | refine JL.store_boxF 5 ty26 (.tmp rfl) rfl (.tmp rfl) (by first | rfl | assumption) (V.cs_length _ _) (rfl) rfl ?_ | refine JL.store_boxF 5 ty26 (.tmp rfl) rfl (.tmp rfl) (by first | rfl | assumption) (V.cs_length _ _) (V.cs_length _ _) rfl ?_ | refine JL.store_box 5 ty26 (.tmp rfl) rfl (.tmp rfl) (by first | rfl | assumption) rfl rfl rfl rfl ?_ | refine JL.store_box 5 ty26 (.tmp rfl) rfl (.tmp rfl) (by first | rfl | assumption) (V.cs_length _ _) rfl rfl rfl ?_
      refine JL.nil ?_
      refine thenQ.n ⟨[], _, rfl, rfl, rfl, rfl, rfl, Reown.tkN 6 rfl, trivial, ⟨trivial, trivial⟩, ?_⟩
      refine JX.conv (S' := [10, 7, 6, 9, 5, 2, 4, 3, 1, 0]) rfl (by (try simp only [lvM]); rfl) (by (try simp only [vlF, bxF, tkM, lvM, Flt.val, Flt.bx, List.append_assoc, List.take_succ_cons, List.take_zero, List.append_eq, id_eq, stepsO, List.map_cons, List.map_nil, valO, nthO, curO, mrg, List.reverse_cons, List.reverse_nil, List.nil_append, List.cons_append, List.append_nil, List.getElem?_cons_zero, List.getElem?_cons_succ, Option.map_some, Option.getD_some, List.set_cons_zero, List.set_cons_succ, AV.cellsOf, splice_zero, splice_succ, Nat.zero_add, Nat.reduceAdd]); rfl) ?_
      refine JX.f 11 [32] rfl rfl rfl rfl rfl rfl rfl rfl (fun ow_ => (.q rfl (QW.assign (.tmp rfl)))) ?_
      refine JX.fin (by kernel_rfl) (by kernel_rfl) fun bs_ => ?_
      refine QX.conv (by (try simp only [vlF, bxF, tkM, lvM, Flt.val, Flt.bx, List.append_assoc, List.take_succ_cons, List.take_zero, List.append_eq, id_eq, stepsO, List.map_cons, List.map_nil, valO, nthO, curO, mrg, List.reverse_cons, List.reverse_nil, List.nil_append, List.cons_append, List.append_nil, List.getElem?_cons_zero, List.getElem?_cons_succ, Option.map_some, Option.getD_some, List.set_cons_zero, List.set_cons_succ, AV.cellsOf, splice_zero, splice_succ, Nat.zero_add, Nat.reduceAdd]); rfl) ?_
      refine thenQ.n ?_
      refine J.cutK (ι := Int) [6, 7, 10] (fun g => [(11, .c (.int .i64 g))]) (fun g oo => oo) (fun g => g = if f = 0 then w.err else f) ?_ ?_
      · skip
        refine J.seq ?_
        refine J.region_lit ?_
        refine JL.q rfl rfl rfl (QW.move (.tmp rfl)) ?_
        refine JL.q rfl rfl rfl (QW.eql (.tmp rfl) .const) ?_
        refine JL.nil ?_
        refine thenQ.n ?_
        refine J.cond (.tmp rfl) (fun c3 => ?_) (fun c3 => ?_)
        · skip
          have hf0 : f = 0 := by simpa using c3
          refine J.region_lit ?_
          refine JL.q rfl rfl rfl (by first | exact QW.load_box 5 ty26 (.tmp rfl) rfl rfl rfl | exact QW.load_box 5 ty26 (.tmp rfl) rfl (take_at (V.cs_length _ _) rfl) (V.cs_length _ _)) ?_
          refine JL.q rfl rfl rfl (QW.callLF [.k, .k, .k, .l, .l] gofn25 (Lent.cons (hV30.lentK) (Lent.cons (hV30.lentI) Lent.nil)) rfl (by first | rfl | simp [mrg]) (fun _ => (.cons (Ev.le (.tmp rfl) (V.raw_le (by simp) (by simp))) .nil)) (rcheck_ok (fr := false) (v := w) Vc.self hww) (Fl.c _)) ?_
          refine JL.q rfl rfl rfl (QW.assign (.tmp rfl)) ?_
          refine JL.nil ?_
          refine thenQ.n ?_
          exact ⟨w.err, by rw [if_pos hf0], Wk.re (.cons rfl (.refl _) (.cons rfl (.refl _) (.cons rfl (.refl _) (.cons rfl (.refl _) .nil)))) (Reown.refl _) (fun _ h => by first | exact h | simp [h])⟩
        · skip
          have hf0 : f ≠ 0 := by simpa using c3
          refine J.skip ?_
          refine thenQ.n ?_
          exact ⟨f, by rw [if_neg hf0], Wk.re (.cons rfl (.refl _) (.cons rfl (.refl _) (.cons rfl (.refl _) (.cons rfl (.refl _) .nil)))) (Reown.refl _) (fun _ h => by first | exact h | simp [h])⟩
      · intro g hg
        refine J.conv (by (try simp only [id_eq, stepsO, List.map_cons, List.map_nil, valO, nthO, curO, mrg, List.reverse_cons, List.reverse_nil, List.nil_append, List.cons_append, List.append_nil, List.getElem?_cons_zero, List.getElem?_cons_succ, Option.map_some, Option.getD_some, List.set_cons_zero, List.set_cons_succ, AV.cellsOf, splice_zero, splice_succ, Nat.zero_add, Nat.reduceAdd]); rfl) ?_
        refine J.seq ?_
        refine J.seq ?_
        refine J.region_lit ?_
        refine JL.q rfl rfl rfl (QW.move (.tmp rfl)) ?_
        refine JL.q rfl rfl rfl (QW.neq (.tmp rfl) .const) ?_
        refine JL.nil ?_
        refine thenQ.n ?_
        refine J.cond (.tmp rfl) (fun c3 => ?_) (fun c3 => ?_)
        · skip
          have hg0 : g ≠ 0 := by simpa using c3
          refine J.seq ?_
          refine J.region_lit ?_
          refine JL.q rfl rfl rfl (QW.build (idx := []) pl26 z26 rfl .nil rfl rfl rfl rfl) ?_
          refine JL.q rfl rfl rfl (QW.move (.tmp rfl)) ?_
          first | refine JL.store_boxF 0 ty26 (.tmp rfl) rfl (.tmp rfl) (by first | rfl | assumption) (rfl) (rfl) rfl ?_ | refine JL.store_boxF 0 ty26 (.tmp rfl) rfl (.tmp rfl) (by first | rfl | assumption) (rfl) (V.cs_length _ _) rfl ?_ | refine JL.store_boxF 0 ty26 (.tmp rfl) rfl (.tmp rfl) (by first | rfl | assumption) (V.cs_length _ _) (rfl) rfl ?_ | refine JL.store_boxF 0 ty26 (.tmp rfl) rfl (.tmp rfl) (by first | rfl | assumption) (V.cs_length _ _) (V.cs_length _ _) rfl ?_ | refine JL.store_box 0 ty26 (.tmp rfl) rfl (.tmp rfl) (by first | rfl | assumption) rfl rfl rfl rfl ?_ | refine JL.store_box 0 ty26 (.tmp rfl) rfl (.tmp rfl) (by first | rfl | assumption) (V.cs_length _ _) rfl rfl rfl ?_
          refine JL.q rfl rfl rfl (QW.assign (.tmp rfl)) ?_
          refine JL.nil ?_
          refine thenQ.n ?_
          refine J.ret ?_
          refine thenQ.r ?_
          exact ⟨_, selP [.k, .k, .k, .k, .k, .k] _, _, RetEv.two rfl (by first | exact REv.cell 0 ty26 rfl rfl rfl rfl (.aggL (.cons (.refl _) (.cons (.refl _) (.cons (.refl _) (.cons (.nil true false _) (.cons (.nil true false _) .nil)))))) | exact REv.cell 0 ty26 rfl rfl (take_at (V.cs_length _ _) rfl) (V.cs_length _ _) (.aggL (.cons (.refl _) (.cons (.refl _) (.cons (.refl _) (.cons (.nil true false _) (.cons (.nil true false _) .nil))))))) (REv.tmp rfl (.refl _)), rfl, sel_perm [.k, .k, .k, .k, .k, .k] _, ⟨congrArg Res.ret (setAV_of (u := .nil) (e := g) (by by_cases hf0 : f = 0; (subst hf0; rw [if_pos rfl] at hg; subst hg; exact setv_bad hv0 hx0 hset hg0); (rw [if_neg hf0] at hg; subst hg; exact setv_err hv0 hx0 hset hf0))).symm, rfl⟩⟩
        · skip
          have hg0 : g = 0 := by simpa using c3
          refine J.skip ?_
          refine thenQ.n ?_
          refine J.seq ?_
          have hf0 : f = 0 := by
            by_cases h : f = 0
            · exact h
            · rw [if_neg h] at hg; exact absurd (hg.symm.trans hg0) h
          subst hf0
          refine J.close 3 rfl hV30.ks.clos rfl (fun _ h => by cases h) ?_
          refine J.close 3 rfl hV30.is.clos rfl (fun _ h => by cases h) ?_
          refine J.region_lit ?_
          refine JL.q rfl rfl rfl (by first | exact QW.load_box 3 ty26 (.tmp rfl) rfl rfl rfl | exact QW.load_box 3 ty26 (.tmp rfl) rfl (take_at (V.cs_length _ _) rfl) (V.cs_length _ _)) ?_
          first | refine JL.store_boxF 0 ty26 (.tmp rfl) rfl (.tmp rfl) (by first | rfl | assumption) (rfl) (rfl) rfl ?_ | refine JL.store_boxF 0 ty26 (.tmp rfl) rfl (.tmp rfl) (by first | rfl | assumption) (rfl) (V.cs_length _ _) rfl ?_ | refine JL.store_boxF 0 ty26 (.tmp rfl) rfl (.tmp rfl) (by first | rfl | assumption) (V.cs_length _ _) (rfl) rfl ?_ | refine JL.store_boxF 0 ty26 (.tmp rfl) rfl (.tmp rfl) (by first | rfl | assumption) (V.cs_length _ _) (V.cs_length _ _) rfl ?_ | refine JL.store_box 0 ty26 (.tmp rfl) rfl (.tmp rfl) (by first | rfl | assumption) rfl rfl rfl rfl ?_ | refine JL.store_box 0 ty26 (.tmp rfl) rfl (.tmp rfl) (by first | rfl | assumption) (V.cs_length _ _) rfl rfl rfl ?_
          refine JL.q rfl rfl rfl (QW.assign .const) ?_
          refine JL.nil ?_
          refine thenQ.n ?_
          refine J.ret ?_
          exact ⟨_, selP [.k, .k, .k, .k] _, _, RetEv.two rfl (by first | exact REv.cell 0 ty26 rfl rfl rfl rfl (V.raw_le (by simp) (by simp)) | exact REv.cell 0 ty26 rfl rfl (take_at (V.cs_length _ _) rfl) (V.cs_length _ _) (V.raw_le (by simp) (by simp))) (REv.tmp rfl (.refl _)), rfl, sel_perm [.k, .k, .k, .k] _, ⟨congrArg Res.ret (setAV_of (setv_ok hv0 hx0 hset (hg.symm.trans hg0))).symm, rfl⟩⟩
def stB : StT := ⟨true, [98], 0⟩
def vL : V := .mk 4 0 [] [] []
def vR : V := .mk 5 0 [] [] []
def vA : V := .mk 5 0 [] [[98]] [vL]
theorem vL_wf : vL.wf := .mk (by decide) (by decide) (by decide) (by decide) (by decide) (fun _ h => by cases h) (fun _ h => by cases h)
theorem vR_wf : vR.wf := .mk (by decide) (by decide) (by decide) (by decide) (by decide) (fun _ h => by cases h) (fun _ h => by cases h)
theorem vA_wf : vA.wf := .mk (by decide) (by decide) (by decide) (by decide) (by decide) (fun s h => by simp at h; subst h; decide) (fun x h => by simp at h; subst h; exact vL_wf)
theorem stB_wf : [stB].length * 32 ≤ reach ∧ ∀ s ∈ [stB], s.wf := ⟨by decide, fun s h => by simp at h; subst h; exact ⟨by decide, by decide⟩⟩
theorem oset : setAV vR [stB] vL = .tup [.agg (vA.cs true), .c (.int .i64 0)] := setAV_of (by decide)
theorem oget : getAV vA [stB] = .tup [.agg (vL.cs true), .c (.int .i64 0)] := getAV_of (by decide)
theorem num02_ok (n : Int) : Fn Try.prog 23 [.c (.int .i64 n)] (.c (.int .i64 n)) := by
  refine AC.of_J Try.func23 rfl Try.ntmps23 rfl fun w0 A0 => ?_
  refine J.seq ?_
  refine J.region_lit ?_
  refine JL.q rfl rfl rfl (QW.assign .const) ?_
  refine JL.nil ?_
  refine thenQ.n ?_
  refine J.seq ?_
  refine J.region_lit ?_
  refine JL.q rfl rfl rfl (QW.move (.tmp rfl)) ?_
  refine JL.q rfl rfl rfl (QW.assign (.tmp rfl)) ?_
  refine JL.nil ?_
  refine thenQ.n ?_
  refine J.ret ?_
  exact ⟨_, selP [] _, _, RetEv.one rfl (REv.tmp rfl (.refl _)), rfl, sel_perm [] _, ⟨rfl, rfl⟩⟩
theorem alive02_ok : Fn Try.prog 27 [] (.c (.bool true)) := by
  refine AC.of_J Try.func27 rfl Try.ntmps27 rfl fun w0 A0 => ?_
  refine J.seq ?_
  refine J.region_lit ?_
  refine JL.q rfl rfl rfl (QW.assign .const) ?_
  refine JL.nil ?_
  refine thenQ.n ?_
  refine J.seq ?_
  refine J.region_lit ?_
  refine JL.q rfl rfl rfl (QW.build (idx := [0]) pl26 z26 rfl (.cons .const .nil) rfl rfl rfl rfl) ?_
  refine JL.q rfl rfl rfl (QW.build (idx := [0, 1]) pl48 z48 rfl (.cons .const (.cons .const .nil)) rfl rfl rfl rfl) ?_
  refine JL.q rfl rfl rfl (QW.buildSlice (idx := [0]) (xs := [stB.cs]) sl39 el48 z48 rfl (.cons (.tmp rfl) .nil) rfl rfl rfl rfl rfl rfl rfl rfl rfl) ?_
  refine JL.q rfl rfl rfl (QW.build (idx := [0]) pl26 z26 rfl (.cons .const .nil) rfl rfl rfl rfl) ?_
  refine JL.q rfl rfl rfl (QW.call gofn30 (.cons (Ev.le (.tmp rfl) (.aggL (.cons (.refl _) (.cons (.refl _) (.cons (.refl _) (.cons (.nil true false _) (.cons (.nil true false _) .nil))))))) (.cons (.tmp rfl) (.cons (Ev.le (.tmp rfl) (.aggL (.cons (.refl _) (.cons (.refl _) (.cons (.refl _) (.cons (.nil true false _) (.cons (.nil true false _) .nil))))))) .nil))) (oset ▸ set_ok (fr := true) (fr2 := true) (c2 := true) (v := vR) (x := vL) (p := [stB]) Vc.self Vc.self vR_wf vL_wf stB_wf)) ?_
  refine JL.q rfl rfl rfl (QW.move (.tmp rfl)) ?_
  refine JL.q rfl rfl rfl (QW.extract (.tmp rfl) rfl) ?_
  refine JL.q rfl rfl rfl (QW.extract (.tmp rfl) rfl) ?_
  refine JL.alloc z26 rfl rfl fun b1 => ?_
  first | refine JL.store_boxF 0 ty26 (.tmp rfl) rfl (.tmp rfl) (by first | rfl | assumption) (rfl) (rfl) rfl ?_ | refine JL.store_boxF 0 ty26 (.tmp rfl) rfl (.tmp rfl) (by first | rfl | assumption) (rfl) (V.cs_length _ _) rfl ?_ | refine JL.store_boxF 0 ty26 (.tmp rfl) rfl (.tmp rfl) (by first | rfl | assumption) (V.cs_length _ _) (rfl) rfl ?_ | refine JL.store_boxF 0 ty26 (.tmp rfl) rfl (.tmp rfl) (by first | rfl | assumption) (V.cs_length _ _) (V.cs_length _ _) rfl ?_ | refine JL.store_box 0 ty26 (.tmp rfl) rfl (.tmp rfl) (by first | rfl | assumption) rfl rfl rfl rfl ?_ | refine JL.store_box 0 ty26 (.tmp rfl) rfl (.tmp rfl) (by first | rfl | assumption) (V.cs_length _ _) rfl rfl rfl ?_
  refine JL.q rfl rfl rfl (QW.assign (.tmp rfl)) ?_
  refine JL.nil ?_
  refine thenQ.n ?_
  refine J.seq ?_
  refine J.region_lit ?_
  refine JL.q rfl rfl rfl (by first | exact QW.load_box 0 ty26 (.tmp rfl) rfl rfl rfl | exact QW.load_box 0 ty26 (.tmp rfl) rfl (take_at (V.cs_length _ _) rfl) (V.cs_length _ _)) ?_
  refine JL.q rfl rfl rfl (QW.build (idx := [0, 1]) pl48 z48 rfl (.cons .const (.cons .const .nil)) rfl rfl rfl rfl) ?_
  refine JL.q rfl rfl rfl (QW.buildSlice (idx := [0]) (xs := [stB.cs]) sl39 el48 z48 rfl (.cons (.tmp rfl) .nil) rfl rfl rfl rfl rfl rfl rfl rfl rfl) ?_
  refine JL.q rfl rfl rfl (QW.call gofn28 (.cons (.tmp rfl) (.cons (.tmp rfl) .nil)) (oget ▸ get_ok (fr := true) (fr2 := true) (c2 := true) (v := vA) (p := [stB]) Vc.self vA_wf stB_wf)) ?_
  refine JL.q rfl rfl rfl (QW.move (.tmp rfl)) ?_
  refine JL.q rfl rfl rfl (QW.extract (.tmp rfl) rfl) ?_
  refine JL.q rfl rfl rfl (QW.extract (.tmp rfl) rfl) ?_
  refine JL.alloc z26 rfl rfl fun b3 => ?_
  first | refine JL.store_boxF 0 ty26 (.tmp rfl) rfl (.tmp rfl) (by first | rfl | assumption) (rfl) (rfl) rfl ?_ | refine JL.store_boxF 0 ty26 (.tmp rfl) rfl (.tmp rfl) (by first | rfl | assumption) (rfl) (V.cs_length _ _) rfl ?_ | refine JL.store_boxF 0 ty26 (.tmp rfl) rfl (.tmp rfl) (by first | rfl | assumption) (V.cs_length _ _) (rfl) rfl ?_ | refine JL.store_boxF 0 ty26 (.tmp rfl) rfl (.tmp rfl) (by first | rfl | assumption) (V.cs_length _ _) (V.cs_length _ _) rfl ?_ | refine JL.store_box 0 ty26 (.tmp rfl) rfl (.tmp rfl) (by first | rfl | assumption) rfl rfl rfl rfl ?_ | refine JL.store_box 0 ty26 (.tmp rfl) rfl (.tmp rfl) (by first | rfl | assumption) (V.cs_length _ _) rfl rfl rfl ?_
  refine JL.q rfl rfl rfl (QW.assign (.tmp rfl)) ?_
  refine JL.nil ?_
  refine thenQ.n ?_
  refine J.seq ?_
  refine J.region_lit ?_
  refine JL.q rfl rfl rfl (QW.move (.tmp rfl)) ?_
  refine JL.q rfl rfl rfl (QW.call gofn23 (.cons (.tmp rfl) .nil) (num02_ok _)) ?_
  refine JL.q rfl rfl rfl (QW.move (.tmp rfl)) ?_
  refine JL.q rfl rfl rfl (QW.call gofn23 (.cons (.tmp rfl) .nil) (num02_ok _)) ?_
  refine JL.q rfl rfl rfl (QW.add (.tmp rfl) (.tmp rfl) (by first | exact w64n (by first | rfl | omega | (simp; done)) (by omega) | exact w64 (by omega) | rfl)) ?_
  refine JL.q rfl rfl rfl (QW.eql (.tmp rfl) .const) ?_
  refine JL.q rfl rfl rfl (QW.move (.tmp rfl)) ?_
  refine JL.g rfl rfl rfl rfl rfl (fun hg => (QW.field_ptr fo26_0 (.tmp rfl) rfl)) ?_
  refine JL.g rfl rfl rfl rfl rfl (fun hg => (QW.load_box1 0 ty3 (.when rfl hg) rfl rfl)) ?_
  refine JL.g rfl rfl rfl rfl rfl (fun hg => (QW.eql (.when rfl hg) .const)) ?_
  refine JL.q rfl rfl rfl (QW.pick_and (.tmp rfl) (.tmp rfl)) ?_
  refine JL.q rfl rfl rfl (QW.move (.tmp rfl)) ?_
  refine JL.g rfl rfl rfl rfl rfl (fun hg => (QW.field_ptr fo26_3 (.tmp rfl) rfl)) ?_
  refine JL.g rfl rfl rfl rfl rfl (fun hg => (QW.load_box1 1 ty23 (.when rfl hg) rfl rfl)) ?_
  refine JL.g rfl rfl rfl rfl rfl (fun hg => (by first | exact QW.len_slE sl23 (.when rfl hg) (keysAV_length _) | exact QW.len_slE sl23 (.when rfl hg) (V.css_length _ _) | exact QW.len_slE sl23 (.when rfl hg) (StT.css_length _) | exact QW.len_sl sl23 (.when rfl hg) | exact QW.len_nil sl23 (.when rfl hg))) ?_
  refine JL.g rfl rfl rfl rfl rfl (fun hg => (QW.eql (.when rfl hg) .const)) ?_
  refine JL.q rfl rfl rfl (QW.pick_and (.tmp rfl) (.tmp rfl)) ?_
  refine JL.q rfl rfl rfl (QW.assign (.tmp rfl)) ?_
  refine JL.nil ?_
  refine thenQ.n ?_
  refine J.ret ?_
  exact ⟨_, selP [.k, .k] _, _, RetEv.one rfl (REv.tmp rfl (.refl _)), rfl, sel_perm [.k, .k] _, ⟨rfl, rfl⟩⟩
end Go.Proofs.Ytkiankpmkglhcaa.J

/- Walks: ValueTells, ValueParts, ValueOwn. -/
namespace Go.Proofs.Ytkiankpmkglhcaa.J
open Go Go.RowKit
set_option linter.unusedVariables false
set_option linter.unusedSimpArgs false
set_option maxRecDepth 10000
set_option maxHeartbeats 4000000
theorem getAV_fresh (v : V) (p : List StT) : Fresh (getAV v p) := .tup (FlL.cons (V.fresh _) (FlL.cons (.c _) .nil))
theorem setAV_fresh (v : V) (p : List StT) (x : V) : Fresh (setAV v p x) := .tup (FlL.cons (V.fresh _) (FlL.cons (.c _) .nil))
theorem valueOwn_ok {v x : V} {p : List StT} (hw : v.wf) (hp : p.length * 32 ≤ reach ∧ ∀ s ∈ p, s.wf) (hxw : x.wf) : Fn Try.prog 6 [.agg (v.cs false), .sl false false eSt (StT.css p), .agg (x.cs false)] (.c (.bool true)) := by
  have hgw := V.getv_wf (p := p) hw
  have hsw := V.setv_wf hw hp.2 hxw
  refine AC.of_J Try.func6 rfl Try.ntmps6 rfl fun w0 A0 => ?_
  refine J.seq ?_
  refine J.region_lit ?_
  refine JL.box_agg (.tmp rfl) rfl fun b3 => ?_
  refine JL.box_agg (.tmp rfl) rfl fun b5 => ?_
  refine JL.q rfl rfl rfl (QW.assign .const) ?_
  refine JL.nil ?_
  refine thenQ.n ?_
  refine J.seq ?_
  refine J.seq ?_
  refine J.region_lit ?_
  refine JL.q rfl rfl rfl (QW.call gofn27 .nil (alive02_ok)) ?_
  refine JL.q rfl rfl rfl (QW.not (.tmp rfl)) ?_
  refine JL.nil ?_
  refine thenQ.n ?_
  refine J.cond (.tmp rfl) (fun c1 => ?_) (fun c1 => ?_)
  · skip
    exact absurd c1 (by simp)
    --closed
  · skip
    skip
    refine J.skip ?_
    refine thenQ.n ?_
    refine J.seq ?_
    refine J.regionX mixed ?_
    refine JX.o 0 1 [] rfl rfl rfl rfl rfl rfl rfl rfl rfl (fun ow_ ho_ => (.q rfl (by first | exact QW.load_box 1 ty26 (.tmp rfl) ho_ rfl rfl | exact QW.load_box 1 ty26 (.tmp rfl) ho_ (take_at (V.cs_length _ _) rfl) (V.cs_length _ _)))) ?_
    refine JX.o 2 0 [] rfl rfl rfl rfl rfl rfl rfl rfl rfl (fun ow_ ho_ => (.q rfl (by first | exact QW.load_box 0 ty26 (.tmp rfl) ho_ rfl rfl | exact QW.load_box 0 ty26 (.tmp rfl) ho_ (take_at (V.cs_length _ _) rfl) (V.cs_length _ _)))) ?_
    refine JX.a 4 rfl (AllocOp.mk z26 rfl) rfl rfl rfl rfl rfl ?_
    refine JX.a 5 rfl (AllocOp.mk z26 rfl) rfl rfl rfl rfl rfl ?_
    refine JX.one 1 [false, false, false, true] rfl (by kernel_rfl) (by kernel_rfl) rfl rfl (by kernel_rfl) rfl fun bs1_ pe_ ex_ => ?_
    refine JL.conv (by (try simp only [vlF, bxF, tkM, lvM, Flt.val, Flt.bx, List.append_assoc, List.take_succ_cons, List.take_zero, List.append_eq, id_eq, stepsO, List.map_cons, List.map_nil, valO, nthO, curO, mrg, List.reverse_cons, List.reverse_nil, List.nil_append, List.cons_append, List.append_nil, List.getElem?_cons_zero, List.getElem?_cons_succ, Option.map_some, Option.getD_some, List.set_cons_zero, List.set_cons_succ, AV.cellsOf, splice_zero, splice_succ, Nat.zero_add, Nat.reduceAdd]); rfl) ?_
    refine JL.callRF [] gofn20 rfl Lent.nil (fun _ => (.cons (.tmp rfl) .nil)) (copyValue_ok Vc.self hw) (.inl rfl) fun x20 o20 h20 => ?_
    obtain ⟨kv20, iv20, ok20, oi20, rfl, rfl, hV20⟩ := h20
    refine JL.nil ?_
    refine thenQ.n ⟨[_], _, rfl, rfl, rfl, rfl, rfl, Reown.mrgN 2 rfl rfl, ⟨rfl, rfl⟩, ⟨trivial, ⟨trivial, ⟨rfl, trivial⟩⟩⟩, ?_⟩
    refine JX.conv (S' := [1, 0]) rfl (by (try simp only [lvM]); rfl) (by (try simp only [vlF, bxF, tkM, lvM, Flt.val, Flt.bx, List.append_assoc, List.take_succ_cons, List.take_zero, List.append_eq, id_eq, stepsO, List.map_cons, List.map_nil, valO, nthO, curO, mrg, List.reverse_cons, List.reverse_nil, List.nil_append, List.cons_append, List.append_nil, List.getElem?_cons_zero, List.getElem?_cons_succ, Option.map_some, Option.getD_some, List.set_cons_zero, List.set_cons_succ, AV.cellsOf, splice_zero, splice_succ, Nat.zero_add, Nat.reduceAdd]); rfl) ?_
    refine JX.one 3 [false, false, true] rfl (by kernel_rfl) (by kernel_rfl) rfl rfl (by kernel_rfl) rfl fun bs3_ pe_ ex_ => ?_
    refine JL.conv (by (try simp only [vlF, bxF, tkM, lvM, Flt.val, Flt.bx, List.append_assoc, List.take_succ_cons, List.take_zero, List.append_eq, id_eq, stepsO, List.map_cons, List.map_nil, valO, nthO, curO, mrg, List.reverse_cons, List.reverse_nil, List.nil_append, List.cons_append, List.append_nil, List.getElem?_cons_zero, List.getElem?_cons_succ, Option.map_some, Option.getD_some, List.set_cons_zero, List.set_cons_succ, AV.cellsOf, splice_zero, splice_succ, Nat.zero_add, Nat.reduceAdd]); rfl) ?_
    refine JL.callRF [] gofn20 rfl Lent.nil (fun _ => (.cons (.tmp rfl) .nil)) (copyValue_ok Vc.self hxw) (.inl rfl) fun x22 o22 h22 => ?_
    obtain ⟨kv22, iv22, ok22, oi22, rfl, rfl, hV22⟩ := h22
    refine JL.nil ?_
    refine thenQ.n ⟨[_], _, rfl, rfl, rfl, rfl, rfl, Reown.mrgN 4 rfl rfl, ⟨rfl, rfl⟩, ⟨trivial, ⟨trivial, trivial⟩⟩, ?_⟩
    refine JX.conv (S' := [3, 2, 1, 0]) rfl (by (try simp only [lvM]); rfl) (by (try simp only [vlF, bxF, tkM, lvM, Flt.val, Flt.bx, List.append_assoc, List.take_succ_cons, List.take_zero, List.append_eq, id_eq, stepsO, List.map_cons, List.map_nil, valO, nthO, curO, mrg, List.reverse_cons, List.reverse_nil, List.nil_append, List.cons_append, List.append_nil, List.getElem?_cons_zero, List.getElem?_cons_succ, Option.map_some, Option.getD_some, List.set_cons_zero, List.set_cons_succ, AV.cellsOf, splice_zero, splice_succ, Nat.zero_add, Nat.reduceAdd]); rfl) ?_
    refine JX.one 6 [true, true] rfl (by kernel_rfl) (by kernel_rfl) rfl rfl (by kernel_rfl) rfl fun bs6_ pe_ ex_ => ?_
    refine JL.conv (by (try simp only [vlF, bxF, tkM, lvM, Flt.val, Flt.bx, List.append_assoc, List.take_succ_cons, List.take_zero, List.append_eq, id_eq, stepsO, List.map_cons, List.map_nil, valO, nthO, curO, mrg, List.reverse_cons, List.reverse_nil, List.nil_append, List.cons_append, List.append_nil, List.getElem?_cons_zero, List.getElem?_cons_succ, Option.map_some, Option.getD_some, List.set_cons_zero, List.set_cons_succ, AV.cellsOf, splice_zero, splice_succ, Nat.zero_add, Nat.reduceAdd]); rfl) ?_
    first | refine JL.store_boxF 7 ty26 (.tmp rfl) rfl (.tmp rfl) (by first | rfl | assumption) (rfl) (rfl) rfl ?_ | refine JL.store_boxF 7 ty26 (.tmp rfl) rfl (.tmp rfl) (by first | rfl | assumption) (rfl) (V.cs_length _ _) rfl ?_ | refine JL.store_boxF 7 ty26 (.tmp rfl) rfl (.tmp rfl) (by first | rfl | assumption) (V.cs_length _ _) (rfl) rfl ?_ | refine JL.store_boxF 7 ty26 (.tmp rfl) rfl (.tmp rfl) (by first | rfl | assumption) (V.cs_length _ _) (V.cs_length _ _) rfl ?_ | refine JL.store_box 7 ty26 (.tmp rfl) rfl (.tmp rfl) (by first | rfl | assumption) rfl rfl rfl rfl ?_ | refine JL.store_box 7 ty26 (.tmp rfl) rfl (.tmp rfl) (by first | rfl | assumption) (V.cs_length _ _) rfl rfl rfl ?_
    refine JL.nil ?_
    refine thenQ.n ⟨[], _, rfl, rfl, rfl, rfl, rfl, Reown.tkN 8 rfl, trivial, trivial, ?_⟩
    refine JX.conv (S' := [6, 5, 4, 3, 2, 1, 0]) rfl (by (try simp only [lvM]); rfl) (by (try simp only [vlF, bxF, tkM, lvM, Flt.val, Flt.bx, List.append_assoc, List.take_succ_cons, List.take_zero, List.append_eq, id_eq, stepsO, List.map_cons, List.map_nil, valO, nthO, curO, mrg, List.reverse_cons, List.reverse_nil, List.nil_append, List.cons_append, List.append_nil, List.getElem?_cons_zero, List.getElem?_cons_succ, Option.map_some, Option.getD_some, List.set_cons_zero, List.set_cons_succ, AV.cellsOf, splice_zero, splice_succ, Nat.zero_add, Nat.reduceAdd]); rfl) ?_
    refine JX.one 7 [] rfl (by kernel_rfl) (by kernel_rfl) rfl rfl (by kernel_rfl) rfl fun bs7_ pe_ ex_ => ?_
    refine JL.conv (by (try simp only [vlF, bxF, tkM, lvM, Flt.val, Flt.bx, List.append_assoc, List.take_succ_cons, List.take_zero, List.append_eq, id_eq, stepsO, List.map_cons, List.map_nil, valO, nthO, curO, mrg, List.reverse_cons, List.reverse_nil, List.nil_append, List.cons_append, List.append_nil, List.getElem?_cons_zero, List.getElem?_cons_succ, Option.map_some, Option.getD_some, List.set_cons_zero, List.set_cons_succ, AV.cellsOf, splice_zero, splice_succ, Nat.zero_add, Nat.reduceAdd]); rfl) ?_
    first | refine JL.store_boxF 6 ty26 (.tmp rfl) rfl (.tmp rfl) (by first | rfl | assumption) (rfl) (rfl) rfl ?_ | refine JL.store_boxF 6 ty26 (.tmp rfl) rfl (.tmp rfl) (by first | rfl | assumption) (rfl) (V.cs_length _ _) rfl ?_ | refine JL.store_boxF 6 ty26 (.tmp rfl) rfl (.tmp rfl) (by first | rfl | assumption) (V.cs_length _ _) (rfl) rfl ?_ | refine JL.store_boxF 6 ty26 (.tmp rfl) rfl (.tmp rfl) (by first | rfl | assumption) (V.cs_length _ _) (V.cs_length _ _) rfl ?_ | refine JL.store_box 6 ty26 (.tmp rfl) rfl (.tmp rfl) (by first | rfl | assumption) rfl rfl rfl rfl ?_ | refine JL.store_box 6 ty26 (.tmp rfl) rfl (.tmp rfl) (by first | rfl | assumption) (V.cs_length _ _) rfl rfl rfl ?_
    refine JL.nil ?_
    refine thenQ.n ⟨[], _, rfl, rfl, rfl, rfl, rfl, Reown.tkN 8 rfl, trivial, trivial, ?_⟩
    refine JX.conv (S' := [7, 6, 5, 4, 3, 2, 1, 0]) rfl (by (try simp only [lvM]); rfl) (by (try simp only [vlF, bxF, tkM, lvM, Flt.val, Flt.bx, List.append_assoc, List.take_succ_cons, List.take_zero, List.append_eq, id_eq, stepsO, List.map_cons, List.map_nil, valO, nthO, curO, mrg, List.reverse_cons, List.reverse_nil, List.nil_append, List.cons_append, List.append_nil, List.getElem?_cons_zero, List.getElem?_cons_succ, Option.map_some, Option.getD_some, List.set_cons_zero, List.set_cons_succ, AV.cellsOf, splice_zero, splice_succ, Nat.zero_add, Nat.reduceAdd]); rfl) ?_
    refine JX.fin (by kernel_rfl) (by kernel_rfl) fun bs_ => ?_
    refine QX.conv (by (try simp only [vlF, bxF, tkM, lvM, Flt.val, Flt.bx, List.append_assoc, List.take_succ_cons, List.take_zero, List.append_eq, id_eq, stepsO, List.map_cons, List.map_nil, valO, nthO, curO, mrg, List.reverse_cons, List.reverse_nil, List.nil_append, List.cons_append, List.append_nil, List.getElem?_cons_zero, List.getElem?_cons_succ, Option.map_some, Option.getD_some, List.set_cons_zero, List.set_cons_succ, AV.cellsOf, splice_zero, splice_succ, Nat.zero_add, Nat.reduceAdd]); rfl) ?_
    refine thenQ.n ?_
    refine J.seq ?_
    refine J.region_lit ?_
    refine JL.q rfl rfl rfl (by first | exact QW.load_box 7 ty26 (.tmp rfl) rfl rfl rfl | exact QW.load_box 7 ty26 (.tmp rfl) rfl (take_at (V.cs_length _ _) rfl) (V.cs_length _ _)) ?_
    refine JL.q rfl rfl rfl (QW.move (.tmp rfl)) ?_
    refine JL.q rfl rfl rfl (QW.callLF [.k, .k, .l, .l] gofn28 (Lent.cons (hV20.lentK) (Lent.cons (hV20.lentI) Lent.nil)) rfl (by first | rfl | simp [mrg]) (fun _ => (.cons (Ev.le (.tmp rfl) (V.raw_le (by simp) (by simp))) (.cons (.tmp rfl) .nil))) (get_ok (fr := false) (v := v) (p := p) Vc.self hw hp) (getAV_fresh _ _)) ?_
    refine JL.q rfl rfl rfl (QW.move (.tmp rfl)) ?_
    refine JL.q rfl rfl rfl (QW.extract (.tmp rfl) rfl) ?_
    refine JL.q rfl rfl rfl (QW.extract (.tmp rfl) rfl) ?_
    refine JL.alloc z26 rfl rfl fun b9 => ?_
    first | refine JL.store_boxF 0 ty26 (.tmp rfl) rfl (.tmp rfl) (by first | rfl | assumption) (rfl) (rfl) rfl ?_ | refine JL.store_boxF 0 ty26 (.tmp rfl) rfl (.tmp rfl) (by first | rfl | assumption) (rfl) (V.cs_length _ _) rfl ?_ | refine JL.store_boxF 0 ty26 (.tmp rfl) rfl (.tmp rfl) (by first | rfl | assumption) (V.cs_length _ _) (rfl) rfl ?_ | refine JL.store_boxF 0 ty26 (.tmp rfl) rfl (.tmp rfl) (by first | rfl | assumption) (V.cs_length _ _) (V.cs_length _ _) rfl ?_ | refine JL.store_box 0 ty26 (.tmp rfl) rfl (.tmp rfl) (by first | rfl | assumption) rfl rfl rfl rfl ?_ | refine JL.store_box 0 ty26 (.tmp rfl) rfl (.tmp rfl) (by first | rfl | assumption) (V.cs_length _ _) rfl rfl rfl ?_
    refine JL.q rfl rfl rfl (QW.assign (.tmp rfl)) ?_
    refine JL.nil ?_
    refine thenQ.n ?_
    refine J.seq ?_
    refine J.region_lit ?_
    refine JL.q rfl rfl rfl (by first | exact QW.load_box 8 ty26 (.tmp rfl) rfl rfl rfl | exact QW.load_box 8 ty26 (.tmp rfl) rfl (take_at (V.cs_length _ _) rfl) (V.cs_length _ _)) ?_
    refine JL.q rfl rfl rfl (QW.move (.tmp rfl)) ?_
    refine JL.q rfl rfl rfl (by first | exact QW.load_box 7 ty26 (.tmp rfl) rfl rfl rfl | exact QW.load_box 7 ty26 (.tmp rfl) rfl (take_at (V.cs_length _ _) rfl) (V.cs_length _ _)) ?_
    refine JL.q rfl rfl rfl (QW.callLF [.k, .k, .k, .l, .l, .l, .l] gofn30 (Lent.cons (hV20.lentK) (Lent.cons (hV20.lentI) (Lent.cons (hV22.lentK) (Lent.cons (hV22.lentI) Lent.nil)))) rfl (by first | rfl | simp [mrg]) (fun _ => (.cons (Ev.le (.tmp rfl) (V.raw_le (by simp) (by simp))) (.cons (.tmp rfl) (.cons (Ev.le (.tmp rfl) (V.raw_le (by simp) (by simp))) .nil)))) (set_ok (fr := false) (v := v) (x := x) (p := p) Vc.self Vc.self hw hxw hp) (setAV_fresh _ _ _)) ?_
    refine JL.q rfl rfl rfl (QW.move (.tmp rfl)) ?_
    refine JL.q rfl rfl rfl (QW.extract (.tmp rfl) rfl) ?_
    refine JL.q rfl rfl rfl (QW.extract (.tmp rfl) rfl) ?_
    refine JL.alloc z26 rfl rfl fun b11 => ?_
    first | refine JL.store_boxF 0 ty26 (.tmp rfl) rfl (.tmp rfl) (by first | rfl | assumption) (rfl) (rfl) rfl ?_ | refine JL.store_boxF 0 ty26 (.tmp rfl) rfl (.tmp rfl) (by first | rfl | assumption) (rfl) (V.cs_length _ _) rfl ?_ | refine JL.store_boxF 0 ty26 (.tmp rfl) rfl (.tmp rfl) (by first | rfl | assumption) (V.cs_length _ _) (rfl) rfl ?_ | refine JL.store_boxF 0 ty26 (.tmp rfl) rfl (.tmp rfl) (by first | rfl | assumption) (V.cs_length _ _) (V.cs_length _ _) rfl ?_ | refine JL.store_box 0 ty26 (.tmp rfl) rfl (.tmp rfl) (by first | rfl | assumption) rfl rfl rfl rfl ?_ | refine JL.store_box 0 ty26 (.tmp rfl) rfl (.tmp rfl) (by first | rfl | assumption) (V.cs_length _ _) rfl rfl rfl ?_
    refine JL.q rfl rfl rfl (QW.assign (.tmp rfl)) ?_
    refine JL.nil ?_
    refine thenQ.n ?_
    refine J.seq ?_
    refine J.region_lit ?_
    refine JL.q rfl rfl rfl (by first | exact QW.load_box 9 ty26 (.tmp rfl) rfl rfl rfl | exact QW.load_box 9 ty26 (.tmp rfl) rfl (take_at (V.cs_length _ _) rfl) (V.cs_length _ _)) ?_
    refine JL.callRF [.k, .k, .k, .k, .p, .p] gofn32 rfl Lent.nil (fun _ => (.cons (.tmp rfl) .nil)) (spoil_ok hV20 hw) (.inl rfl) fun x37 o37 h37 => ?_
    obtain ⟨rfl, rfl⟩ := h37
    refine JL.nil ?_
    refine thenQ.n ?_
    refine J.seq ?_
    refine J.region_lit ?_
    refine JL.q rfl rfl rfl (by first | exact QW.load_box 6 ty26 (.tmp rfl) rfl rfl rfl | exact QW.load_box 6 ty26 (.tmp rfl) rfl (take_at (V.cs_length _ _) rfl) (V.cs_length _ _)) ?_
    refine JL.callRF [.k, .k, .k, .k, .p, .p] gofn32 rfl Lent.nil (fun _ => (.cons (.tmp rfl) .nil)) (spoil_ok hV22 hxw) (.inl rfl) fun x39 o39 h39 => ?_
    obtain ⟨rfl, rfl⟩ := h39
    refine JL.nil ?_
    refine thenQ.n ?_
    refine J.seq ?_
    refine J.region_lit ?_
    refine JL.q rfl rfl rfl (by first | exact QW.load_box 3 ty26 (.tmp rfl) rfl rfl rfl | exact QW.load_box 3 ty26 (.tmp rfl) rfl (take_at (V.cs_length _ _) rfl) (V.cs_length _ _)) ?_
    refine JL.q rfl rfl rfl (QW.move (.tmp rfl)) ?_
    refine JL.q rfl rfl rfl (QW.call gofn29 (.cons (.tmp rfl) (.cons (.tmp rfl) .nil)) (rget_ok Vc.self hw hp)) ?_
    refine JL.q rfl rfl rfl (QW.move (.tmp rfl)) ?_
    refine JL.q rfl rfl rfl (QW.extract (.tmp rfl) rfl) ?_
    refine JL.q rfl rfl rfl (QW.extract (.tmp rfl) rfl) ?_
    refine JL.alloc z26 rfl rfl fun b13 => ?_
    first | refine JL.store_boxF 0 ty26 (.tmp rfl) rfl (.tmp rfl) (by first | rfl | assumption) (rfl) (rfl) rfl ?_ | refine JL.store_boxF 0 ty26 (.tmp rfl) rfl (.tmp rfl) (by first | rfl | assumption) (rfl) (V.cs_length _ _) rfl ?_ | refine JL.store_boxF 0 ty26 (.tmp rfl) rfl (.tmp rfl) (by first | rfl | assumption) (V.cs_length _ _) (rfl) rfl ?_ | refine JL.store_boxF 0 ty26 (.tmp rfl) rfl (.tmp rfl) (by first | rfl | assumption) (V.cs_length _ _) (V.cs_length _ _) rfl ?_ | refine JL.store_box 0 ty26 (.tmp rfl) rfl (.tmp rfl) (by first | rfl | assumption) rfl rfl rfl rfl ?_ | refine JL.store_box 0 ty26 (.tmp rfl) rfl (.tmp rfl) (by first | rfl | assumption) (V.cs_length _ _) rfl rfl rfl ?_
    refine JL.q rfl rfl rfl (QW.assign (.tmp rfl)) ?_
    refine JL.nil ?_
    refine thenQ.n ?_
    refine J.seq ?_
    refine J.region_lit ?_
    refine JL.q rfl rfl rfl (by first | exact QW.load_box 4 ty26 (.tmp rfl) rfl rfl rfl | exact QW.load_box 4 ty26 (.tmp rfl) rfl (take_at (V.cs_length _ _) rfl) (V.cs_length _ _)) ?_
    refine JL.q rfl rfl rfl (QW.move (.tmp rfl)) ?_
    refine JL.q rfl rfl rfl (by first | exact QW.load_box 3 ty26 (.tmp rfl) rfl rfl rfl | exact QW.load_box 3 ty26 (.tmp rfl) rfl (take_at (V.cs_length _ _) rfl) (V.cs_length _ _)) ?_
    refine JL.q rfl rfl rfl (QW.call gofn31 (.cons (.tmp rfl) (.cons (.tmp rfl) (.cons (.tmp rfl) .nil))) (rset_ok Vc.self Vc.self hw hxw hp)) ?_
    refine JL.q rfl rfl rfl (QW.move (.tmp rfl)) ?_
    refine JL.q rfl rfl rfl (QW.extract (.tmp rfl) rfl) ?_
    refine JL.q rfl rfl rfl (QW.extract (.tmp rfl) rfl) ?_
    refine JL.alloc z26 rfl rfl fun b15 => ?_
    first | refine JL.store_boxF 0 ty26 (.tmp rfl) rfl (.tmp rfl) (by first | rfl | assumption) (rfl) (rfl) rfl ?_ | refine JL.store_boxF 0 ty26 (.tmp rfl) rfl (.tmp rfl) (by first | rfl | assumption) (rfl) (V.cs_length _ _) rfl ?_ | refine JL.store_boxF 0 ty26 (.tmp rfl) rfl (.tmp rfl) (by first | rfl | assumption) (V.cs_length _ _) (rfl) rfl ?_ | refine JL.store_boxF 0 ty26 (.tmp rfl) rfl (.tmp rfl) (by first | rfl | assumption) (V.cs_length _ _) (V.cs_length _ _) rfl ?_ | refine JL.store_box 0 ty26 (.tmp rfl) rfl (.tmp rfl) (by first | rfl | assumption) rfl rfl rfl rfl ?_ | refine JL.store_box 0 ty26 (.tmp rfl) rfl (.tmp rfl) (by first | rfl | assumption) (V.cs_length _ _) rfl rfl rfl ?_
    refine JL.q rfl rfl rfl (QW.assign (.tmp rfl)) ?_
    refine JL.nil ?_
    refine thenQ.n ?_
    refine J.seq ?_
    refine J.region_lit ?_
    refine JL.q rfl rfl rfl (by first | exact QW.load_box 3 ty26 (.tmp rfl) rfl rfl rfl | exact QW.load_box 3 ty26 (.tmp rfl) rfl (take_at (V.cs_length _ _) rfl) (V.cs_length _ _)) ?_
    refine JL.q rfl rfl rfl (by first | exact QW.load_box 1 ty26 (.tmp rfl) rfl rfl rfl | exact QW.load_box 1 ty26 (.tmp rfl) rfl (take_at (V.cs_length _ _) rfl) (V.cs_length _ _)) ?_
    refine JL.q rfl rfl rfl (QW.call gofn26 (.cons (.tmp rfl) (.cons (.tmp rfl) .nil)) (by first | exact sameValue_ok Vc.self Vc.self hgw hgw | exact sameValue_ok Vc.self Vc.self hsw hsw | exact sameValue_ok Vc.self Vc.self hw hw | exact sameValue_ok Vc.self Vc.self hxw hxw)) ?_
    refine JL.q rfl rfl rfl (QW.move (.tmp rfl)) ?_
    refine JL.g rfl rfl rfl rfl rfl (fun hg => (QW.move (.tmp rfl))) ?_
    refine JL.g rfl rfl rfl rfl rfl (fun hg => (QW.call gofn23 (.cons (.when rfl hg) .nil) (num02_ok _))) ?_
    refine JL.g rfl rfl rfl rfl rfl (fun hg => (QW.move (.tmp rfl))) ?_
    refine JL.g rfl rfl rfl rfl rfl (fun hg => (QW.eql (.when rfl hg) (.when rfl hg))) ?_
    refine JL.q rfl rfl rfl (QW.pick_and (.tmp rfl) (.tmp rfl)) ?_
    refine JL.q rfl rfl rfl (QW.move (.tmp rfl)) ?_
    refine JL.g rfl rfl rfl rfl rfl (fun hg => (by first | exact QW.load_box 2 ty26 (.tmp rfl) rfl rfl rfl | exact QW.load_box 2 ty26 (.tmp rfl) rfl (take_at (V.cs_length _ _) rfl) (V.cs_length _ _))) ?_
    refine JL.g rfl rfl rfl rfl rfl (fun hg => (by first | exact QW.load_box 0 ty26 (.tmp rfl) rfl rfl rfl | exact QW.load_box 0 ty26 (.tmp rfl) rfl (take_at (V.cs_length _ _) rfl) (V.cs_length _ _))) ?_
    refine JL.g rfl rfl rfl rfl rfl (fun hg => (QW.call gofn26 (.cons (.when rfl hg) (.cons (.when rfl hg) .nil)) (by first | exact sameValue_ok Vc.self Vc.self hgw hgw | exact sameValue_ok Vc.self Vc.self hsw hsw | exact sameValue_ok Vc.self Vc.self hw hw | exact sameValue_ok Vc.self Vc.self hxw hxw))) ?_
    refine JL.q rfl rfl rfl (QW.pick_and (.tmp rfl) (.tmp rfl)) ?_
    refine JL.q rfl rfl rfl (QW.move (.tmp rfl)) ?_
    refine JL.g rfl rfl rfl rfl rfl (fun hg => (QW.move (.tmp rfl))) ?_
    refine JL.g rfl rfl rfl rfl rfl (fun hg => (QW.call gofn23 (.cons (.when rfl hg) .nil) (num02_ok _))) ?_
    refine JL.g rfl rfl rfl rfl rfl (fun hg => (QW.move (.tmp rfl))) ?_
    refine JL.g rfl rfl rfl rfl rfl (fun hg => (QW.eql (.when rfl hg) (.when rfl hg))) ?_
    refine JL.q rfl rfl rfl (QW.pick_and (.tmp rfl) (.tmp rfl)) ?_
    refine JL.q rfl rfl rfl (QW.assign (.tmp rfl)) ?_
    refine JL.nil ?_
    refine thenQ.n ?_
    refine J.ret ?_
    exact ⟨_, selP [.k, .k, .k, .k, .k, .k, .k, .k] _, _, RetEv.one rfl (REv.tmp rfl (.refl _)), rfl, sel_perm [.k, .k, .k, .k, .k, .k, .k, .k] _, ⟨ret_b (by simp [V.same_refl]), rfl⟩⟩
end Go.Proofs.Ytkiankpmkglhcaa.J

