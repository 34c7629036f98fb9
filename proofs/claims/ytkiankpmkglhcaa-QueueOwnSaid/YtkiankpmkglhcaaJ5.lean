/- Words for regions that draw their order. -/
import Derived.Test.YtkiankpmkglhcaaJ4
namespace Go.Proofs.Ytkiankpmkglhcaa.J
open Go Go.RowKit
set_option linter.unusedVariables false
set_option linter.unusedSimpArgs false

def cnt (n : Nat) (f : Nat → Bool) : Nat := (List.range n).countP f
theorem cnt_succ (n : Nat) (f : Nat → Bool) : cnt (n + 1) f = cnt n f + if f n then 1 else 0 := by
  simp [cnt, List.range_succ, List.countP_append]
theorem cnt_set (f f' : Nat → Bool) (i : Nat) (h : ∀ j, j ≠ i → f' j = f j) (h1 : f i = true) (h0 : f' i = false) : ∀ n, cnt n f' + (if i < n then 1 else 0) = cnt n f
  | 0 => by simp [cnt]
  | n + 1 => by
    have ih := cnt_set f f' i h h1 h0 n
    rw [cnt_succ, cnt_succ]
    by_cases hn : n = i
    · subst hn
      rw [h1, h0]
      simp at ih ⊢
      omega
    · rw [h n hn]
      have h2 : (if i < n + 1 then 1 else 0) = (if i < n then 1 else 0 : Nat) := by
        by_cases hlt : i < n
        · rw [if_pos hlt, if_pos (by omega)]
        · rw [if_neg hlt, if_neg (by omega)]
      rw [h2]; omega

def dropEnv (ds : List Nat) (env : List (Nat × AV)) : List (Nat × AV) := env.filter fun p => !(ds.any (Nat.beq p.1))

theorem lk_filter (p : Nat → Bool) : ∀ (env : List (Nat × AV)) (i : Nat) (x : AV), lk (env.filter fun q => p q.1) i = some x → lk env i = some x ∧ p i = true
  | [], _, _, h => by simp [lk] at h
  | (j, y) :: l, i, x, h => by
    simp only [List.filter_cons] at h
    split at h
    · rename_i hp
      rcases lk_cons h with ⟨rfl, rfl⟩ | ⟨hne, h⟩
      · exact ⟨by simp [lk], hp⟩
      · obtain ⟨h1, h2⟩ := lk_filter p l i x h
        refine ⟨?_, h2⟩
        unfold lk
        split
        · rename_i hb; exact absurd (Nat.eq_of_beq_eq_true hb) hne
        · exact h1
    · rename_i hp
      obtain ⟨h1, h2⟩ := lk_filter p l i x h
      refine ⟨?_, h2⟩
      unfold lk
      split
      · rename_i hb
        have := Nat.eq_of_beq_eq_true hb
        subst this
        exact absurd h2 hp
      · exact h1

def dsts (ops : List Oper) : List Nat := ops.filterMap (·.dst)
def depsOk (o : Oper) (ds : List Nat) : Bool := ds.all fun j => o.after.toList.any fun e => Nat.beq e.on j && Region.binds .any e
def nodupB : List Nat → Bool
  | [] => true
  | x :: l => !(l.any (Nat.beq x)) && nodupB l
def backB : Nat → List Oper → Bool
  | _, [] => true
  | i, o :: l => (o.after.toList.all fun e => !Region.binds .any e || Nat.blt e.on i) && backB (i + 1) l

section
variable {P : Program} {E : Ent} {Q : Exit → St → Prop} {n : Nat} {env : List (Nat × AV)} {own : List Own} {F : List (Value × AV)} {D : List Deferred} {ops : Array Oper}

theorem dsts_mem {l : List Oper} {o : Oper} {d : Nat} {i : Nat} (h : l[i]? = some o) (hd : o.dst = some d) : d ∈ dsts l := List.mem_filterMap.2 ⟨o, List.mem_of_getElem? h, hd⟩

theorem nodupB_ne : ∀ {l : List Oper}, nodupB (dsts l) = true → ∀ {i j : Nat} {o o' : Oper} {d : Nat}, l[i]? = some o → l[j]? = some o' → o.dst = some d → o'.dst = some d → i = j
  | [], _, i, _, _, _, _, h, _, _, _ => by simp at h
  | x :: l, hn, i, j, o, o', d, hi, hj, hd, hd' => by
    have hrec : nodupB (dsts l) = true := by
      unfold dsts at hn ⊢
      rw [List.filterMap_cons] at hn
      split at hn
      · exact hn
      · simp only [nodupB, Bool.and_eq_true] at hn; exact hn.2
    have hhead : ∀ {k : Nat} {o'' : Oper}, l[k]? = some o'' → x.dst = some d → o''.dst = some d → False := by
      intro k o'' hk hx ho
      unfold dsts at hn
      rw [List.filterMap_cons, hx] at hn
      simp only [nodupB, Bool.and_eq_true, Bool.not_eq_true'] at hn
      have := List.any_eq_false.1 hn.1 d (dsts_mem hk ho)
      simp at this
    cases i with
    | zero =>
      cases j with
      | zero => rfl
      | succ j => simp at hi hj; subst hi; exact (hhead hj hd hd').elim
    | succ i =>
      cases j with
      | zero => simp at hi hj; subst hj; exact (hhead hi hd' hd).elim
      | succ j => simp at hi hj; rw [nodupB_ne hrec hi hj hd hd']

theorem backB_lt : ∀ {l : List Oper} {k : Nat}, backB k l = true → ∀ {i : Nat} {o : Oper}, l[i]? = some o → ∀ e ∈ o.after, Region.binds .any e = true → e.on < k + i
  | [], _, _, i, _, h, _, _, _ => by simp at h
  | x :: l, k, hb, i, o, hi, e, he, hbe => by
    simp only [backB, Bool.and_eq_true] at hb
    cases i with
    | zero =>
      simp at hi; subst hi
      have h1 := List.all_eq_true.1 hb.1 e (by simpa using he)
      rw [hbe] at h1
      simp at h1
      omega
    | succ i =>
      have := backB_lt hb.2 (i := i) (o := o) (by simpa using hi) e he hbe
      omega

end
end Go.Proofs.Ytkiankpmkglhcaa.J
