/- Texts of this proof, laid together. -/
import Derived.Test.YtkiankpmkglhcaaX2RValueSets
import Derived.Lib.AppendZerosOnto
import Derived.Laws.Externs
/- Steps into values: what is found, got and set, as plain data. -/
namespace Go.Proofs.Ytkiankpmkglhcaa.J
open Go Go.RowKit
set_option linter.unusedVariables false
set_option linter.unusedSimpArgs false
structure StT where
  isKey : Bool
  key : Str
  index : Int
  deriving DecidableEq
def eSt : ETy := ⟨3, 32⟩
def StT.cs (s : StT) : List AV := [.c (.bool s.isKey), .c (str s.key), .c (.int .i64 s.index)]
def StT.css (l : List StT) : List (List AV) := l.map StT.cs
theorem StT.css_length (l : List StT) : (StT.css l).length = l.length := by simp [StT.css]
theorem StT.css_getE {l : List StT} {i : Nat} (h : i < l.length) : (StT.css l)[i]? = some l[i].cs := by simp [StT.css, h]
structure StT.wf (s : StT) : Prop where
  k : s.key.length ≤ reach
  i : -9223372036854775808 ≤ s.index ∧ s.index ≤ 9223372036854775807
/-- These cells are the step's. -/
def Sc (s : StT) (ys : List AV) : Prop := ys = s.cs
theorem Sc.self {s : StT} : Sc s s.cs := rfl
theorem Sc.mk {b : Bool} {k : Str} {i : Int} : Sc ⟨b, k, i⟩ [.c (.bool b), .c (str k), .c (.int .i64 i)] := rfl
/-! ### texts in order -/
theorem less_irr : ∀ a : Str, Op.bytesLess a a = false
  | [] => rfl
  | x :: a => by simp [Op.bytesLess, less_irr a]
theorem less_trans : ∀ {a b c : Str}, Op.bytesLess a b = true → Op.bytesLess b c = true → Op.bytesLess a c = true
  | a, [], _, h, _ => by cases a <;> simp [Op.bytesLess] at h
  | [], y :: b, z :: c, _, _ => rfl
  | _, y :: b, [], _, h => by simp [Op.bytesLess] at h
  | x :: a, y :: b, z :: c, h, k => by
    simp only [Op.bytesLess, Bool.or_eq_true, decide_eq_true_eq, Bool.and_eq_true, beq_iff_eq, UInt8.lt_iff_toNat_lt] at h k ⊢
    rcases h with h | ⟨rfl, h⟩
    · rcases k with k | ⟨rfl, k⟩
      · exact .inl (by omega)
      · exact .inl h
    · rcases k with k | ⟨rfl, k⟩
      · exact .inl k
      · exact .inr ⟨rfl, less_trans h k⟩
theorem less_tri (a b : Str) : Op.bytesLess a b = true ∨ a = b ∨ Op.bytesLess b a = true := by
  have := bytesLess_tri a b
  cases h : Op.bytesLess b a with
  | true => exact .inr (.inr rfl)
  | false =>
    rw [h] at this
    simp only [Bool.not_false, Bool.or_eq_true, beq_iff_eq] at this
    exact this.elim .inl fun h => .inr (.inl h)
theorem less_asym {a b : Str} (h : Op.bytesLess a b = true) : Op.bytesLess b a = false := by
  cases k : Op.bytesLess b a with
  | false => rfl
  | true => have := less_trans h k; rw [less_irr] at this; cases this
def Sorted (l : List Str) : Prop := List.Pairwise (fun a b => Op.bytesLess a b = true) l
theorem keysOk_sorted {l : List Str} (h : keysOk l = true) : Sorted l := by
  have hk : ∀ j, j < l.length → keyAt l j = true := fun j hj => List.all_eq_true.1 h j (by simpa using hj)
  rw [Sorted, List.pairwise_iff_getElem]
  intro i j hi hj hij
  induction j with
  | zero => omega
  | succ j ih =>
    have h1 := hk (j + 1) hj
    simp only [keyAt, Bool.and_eq_true, Bool.or_eq_true, beq_iff_eq, Nat.add_sub_cancel] at h1
    have h2 : Op.bytesLess l[j] l[j + 1] = true := by
      have := h1.2.resolve_left (by omega)
      simpa [List.getD, hj, show j < l.length by omega] using this
    by_cases he : i = j
    · subst he; exact h2
    · exact less_trans (ih (by omega) (by omega)) h2
/-- How many of them come ahead of a text. -/
def low : List Str → Str → Nat
  | [], _ => 0
  | k :: r, s => if Op.bytesLess k s then low r s + 1 else 0
theorem low_le : ∀ (l : List Str) (s : Str), low l s ≤ l.length
  | [], _ => Nat.le_refl _
  | k :: r, s => by
    have := low_le r s
    unfold low
    split
    · simp; exact this
    · exact Nat.zero_le _
theorem low_lt : ∀ {l : List Str} {s : Str} {i : Nat} (h : i < l.length), i < low l s → Op.bytesLess l[i] s = true
  | k :: r, s, i, h, hi => by
    unfold low at hi
    split at hi
    · rename_i hk
      cases i with
      | zero => exact hk
      | succ i => exact low_lt (l := r) (by simpa using h) (by omega)
    · omega
theorem low_at : ∀ {l : List Str} {s : Str} (h : low l s < l.length), Op.bytesLess l[low l s] s = false
  | k :: r, s, h => by
    by_cases hk : Op.bytesLess k s = true
    · have e : low (k :: r) s = low r s + 1 := by rw [low, if_pos hk]
      simp only [e, List.getElem_cons_succ]
      exact low_at (by rw [e] at h; simpa using h)
    · have e : low (k :: r) s = 0 := by rw [low, if_neg hk]
      simp only [e, List.getElem_cons_zero]
      simpa using hk
theorem low_ge {l : List Str} {s : Str} (hs : Sorted l) {i : Nat} (h : i < l.length) (hi : low l s ≤ i) : Op.bytesLess l[i] s = false := by
  have h0 := low_at (l := l) (s := s) (by omega)
  by_cases he : low l s = i
  · simp only [he] at h0; exact h0
  · cases hc : Op.bytesLess l[i] s with
    | false => rfl
    | true =>
      have := (List.pairwise_iff_getElem.1 hs) (low l s) i (by omega) h (by omega)
      rw [less_trans this hc] at h0
      cases h0
/-- A text that is among them stands where it is looked for. -/
theorem low_eq {l : List Str} {s : Str} (hs : Sorted l) {i : Nat} (h : i < l.length) (he : l[i] = s) : low l s = i := by
  rcases Nat.lt_trichotomy (low l s) i with h1 | h1 | h1
  · have h2 := (List.pairwise_iff_getElem.1 hs) (low l s) i (by omega) h h1
    have h3 := low_at (l := l) (s := s) (by omega)
    rw [he] at h2
    rw [h2] at h3
    cases h3
  · exact h1
  · have := low_lt h h1
    rw [he, less_irr] at this
    cases this
/-! ### values that may be -/
inductive V.Fine : V → Prop
  | mk {v : V} (h : partOk v = true) (hs : ∀ x ∈ v.items, V.Fine x) : V.Fine v
theorem V.Fine.part {v : V} (h : v.Fine) : partOk v = true := by cases h; assumption
theorem V.Fine.kid {v : V} (h : v.Fine) {x : V} (hx : x ∈ v.items) : x.Fine := by cases h with | mk _ h => exact h x hx
mutual
theorem V.fine_chk : ∀ (v : V) (lev n : Int), (v.chk lev n).1 = 0 → v.Fine
  | .mk k b t ks is, lev, n, h => by
    unfold V.chk at h
    split at h
    · simp at h
    · split at h
      · simp at h
      · split at h
        · simp at h
        · rename_i hp
          exact .mk (by simpa using hp) (V.fine_chks is lev (n + 1) h)
theorem V.fine_chks : ∀ (l : List V) (lev n : Int), (V.chks l lev n).1 = 0 → ∀ x ∈ l, x.Fine
  | [], _, _, _ => fun _ h => by cases h
  | y :: r, lev, n, h => fun x hx => by
    unfold V.chks at h
    split at h
    · rename_i h'; exact absurd h h'
    · rename_i h'
      rcases List.mem_cons.1 hx with e | hx
      · rw [e]; exact V.fine_chk y (lev + 1) n (by simpa using h')
      · exact V.fine_chks r lev _ h x hx
end
theorem V.fine_of {v : V} (h : v.err = 0) : v.Fine := V.fine_chk v 1 0 h
theorem partOk_rec {v : V} (h : partOk v = true) (hk : v.kind = 5) : v.keys.length = v.items.length ∧ keysOk v.keys = true := by
  obtain ⟨k, b, t, ks, is⟩ := v
  simp only [V.kind] at hk
  subst hk
  simp [partOk] at h
  exact ⟨h.1.2, h.2⟩
theorem partOk_len {v : V} (h : partOk v = true) : v.items.length ≤ 32 ∧ v.keys.length ≤ 32 := by
  obtain ⟨k, b, t, ks, is⟩ := v
  unfold partOk at h
  simp only [V.items, V.keys]
  repeat' split at h
  all_goals (simp at h; try grind)
theorem V.Fine.sorted {v : V} (h : v.Fine) (hk : v.kind = 5) : Sorted v.keys := keysOk_sorted (partOk_rec h.part hk).2
/-! ### steps -/
def V.fnd (v : V) (s : StT) : Nat × Int :=
  if s.isKey = true then (if v.kind = 5 then (low v.keys s.key, if v.keys[low v.keys s.key]? = some s.key then 0 else 71) else (0, 81))
  else if v.kind = 4 then (if s.index < 0 ∨ (v.items.length : Int) ≤ s.index then (0, 82) else (s.index.toNat, 0)) else (0, 81)
theorem V.fnd_lt {v : V} {s : StT} (hv : partOk v = true) (h : (v.fnd s).2 = 0) : (v.fnd s).1 < v.items.length := by
  unfold V.fnd at h ⊢
  split
  · rename_i h1
    rw [if_pos h1] at h
    split
    · rename_i h2
      rw [if_pos h2] at h
      simp only at h ⊢
      split at h
      · rename_i h3
        rw [← (partOk_rec hv h2).1]
        exact (List.getElem?_eq_some_iff.1 h3).1
      · simp at h
    · rename_i h2
      rw [if_neg h2] at h
      simp at h
  · rename_i h1
    rw [if_neg h1] at h
    split
    · rename_i h2
      rw [if_pos h2] at h
      split
      · rename_i h3
        rw [if_pos h3] at h
        simp at h
      · simp only; omega
    · rename_i h2
      rw [if_neg h2] at h
      simp at h
def V.kid (v : V) (i : Nat) : V := v.items.getD i .nil
def V.setAt (v : V) (i : Nat) (x : V) : V := .mk v.kind v.bits v.text v.keys (v.items.set i x)
def V.ins (v : V) (s : StT) (i : Nat) (x : V) : V := .mk v.kind v.bits v.text (if s.isKey = true then v.keys.take i ++ [s.key] ++ v.keys.drop i else v.keys) (v.items.take i ++ [x] ++ v.items.drop i)
/-- A new item, where a step says so. -/
def V.grw (v : V) (s : StT) (i : Nat) (e : Int) : Nat × Int :=
  if e = 71 ∧ keyOk s.key = false then (0, 31) else if e = 82 ∧ s.index = v.items.length then (if 32 ≤ v.items.length then (0, 3) else (v.items.length, 0)) else if e ≠ 71 then (0, e) else if 32 ≤ v.items.length then (0, 3) else (i, 0)
def V.put (v : V) (s : StT) (x : V) : V × Int :=
  if (v.fnd s).2 = 0 then (v.setAt (v.fnd s).1 x, 0) else if (v.grw s (v.fnd s).1 (v.fnd s).2).2 = 0 then (v.ins s (v.grw s (v.fnd s).1 (v.fnd s).2).1 x, 0) else (.nil, (v.grw s (v.fnd s).1 (v.fnd s).2).2)
def V.set : V → List StT → V → V × Int
  | _, [], x => (x, 0)
  | v, [s], x => v.put s x
  | v, s :: t :: r, x => if (v.fnd s).2 ≠ 0 then (.nil, (v.fnd s).2) else if (V.set (v.kid (v.fnd s).1) (t :: r) x).2 ≠ 0 then (.nil, (V.set (v.kid (v.fnd s).1) (t :: r) x).2) else (v.setAt (v.fnd s).1 (V.set (v.kid (v.fnd s).1) (t :: r) x).1, 0)
def V.setv (v : V) (p : List StT) (x : V) : V × Int :=
  if v.err ≠ 0 then (.nil, v.err) else if x.err ≠ 0 then (.nil, x.err) else if (v.set p x).2 ≠ 0 then (.nil, (v.set p x).2) else if (v.set p x).1.err ≠ 0 then (.nil, (v.set p x).1.err) else ((v.set p x).1, 0)
def V.walk : V → List StT → V × Int
  | v, [] => (v, 0)
  | v, s :: r => if (v.fnd s).2 ≠ 0 then (.nil, (v.fnd s).2) else V.walk (v.kid (v.fnd s).1) r
def V.getv (v : V) (p : List StT) : V × Int := if v.err ≠ 0 then (.nil, v.err) else v.walk p
theorem V.kid_mem {v : V} {i : Nat} (h : i < v.items.length) : v.kid i ∈ v.items := by
  unfold V.kid; simp [List.getD, h]
theorem V.kid_eq {v : V} {i : Nat} (h : i < v.items.length) : v.kid i = v.items[i] := by
  unfold V.kid; simp [List.getD, h]
theorem V.wf.kid {v : V} (h : v.wf) {x : V} (hx : x ∈ v.items) : x.wf := by obtain ⟨k, b, t, ks, is⟩ := v; exact h.inv.2.2.2.2.2.2 x hx
theorem V.walk_wf : ∀ {p : List StT} {v : V}, v.wf → v.Fine → (v.walk p).1.wf
  | [], v, h, _ => h
  | s :: r, v, h, hf => by
    unfold V.walk
    split
    · exact V.wf_nil
    · rename_i he
      have hlt := V.fnd_lt hf.part (by simpa using he)
      exact V.walk_wf (h.kid (V.kid_mem hlt)) (hf.kid (V.kid_mem hlt))
theorem V.getv_wf {v : V} {p : List StT} (h : v.wf) : (v.getv p).1.wf := by
  unfold V.getv
  split
  · exact V.wf_nil
  · rename_i he
    exact V.walk_wf h (V.fine_of (by simpa using he))
theorem V.setAt_wf {v x : V} {i : Nat} (h : v.wf) (hx : x.wf) : (v.setAt i x).wf := by
  obtain ⟨k, b, t, ks, is⟩ := v
  obtain ⟨h1, h2, h3, h4, h5, h6, h7⟩ := h.inv
  exact .mk h1 h2 h3 h4 (by simpa [V.items] using h5) h6 fun y hy => (List.mem_or_eq_of_mem_set hy).elim (h7 y) fun e => e ▸ hx
theorem V.ins_wf {v x : V} {s : StT} {i : Nat} (h : v.wf) (hf : partOk v = true) (hs : s.wf) (hx : x.wf) : (v.ins s i x).wf := by
  obtain ⟨k, b, t, ks, is⟩ := v
  obtain ⟨h1, h2, h3, h4, h5, h6, h7⟩ := h.inv
  obtain ⟨l1, l2⟩ := partOk_len hf
  simp only [V.items, V.keys] at l1 l2
  refine .mk h1 h2 h3 ?_ ?_ ?_ ?_
  · simp only [V.keys]
    split
    · simp only [List.length_append, List.length_take, List.length_drop, List.length_singleton]; unfold reach; omega
    · exact h4
  · simp only [V.items, List.length_append, List.length_take, List.length_drop, List.length_singleton]; unfold reach; omega
  · simp only [V.keys]
    intro z hz
    split at hz
    · simp only [List.mem_append, List.mem_singleton] at hz
      rcases hz with (hz | rfl) | hz
      · exact h6 z (List.mem_of_mem_take hz)
      · exact hs.k
      · exact h6 z (List.mem_of_mem_drop hz)
    · exact h6 z hz
  · simp only [V.items]
    intro z hz
    simp only [List.mem_append, List.mem_singleton] at hz
    rcases hz with (hz | rfl) | hz
    · exact h7 z (List.mem_of_mem_take hz)
    · exact hx
    · exact h7 z (List.mem_of_mem_drop hz)
theorem V.put_wf {v x : V} {s : StT} (h : v.wf) (hf : partOk v = true) (hs : s.wf) (hx : x.wf) : (v.put s x).1.wf := by
  unfold V.put
  split
  · exact V.setAt_wf h hx
  · split
    · exact V.ins_wf h hf hs hx
    · exact V.wf_nil
theorem V.set_wf : ∀ {p : List StT} {v x : V}, v.wf → v.Fine → (∀ s ∈ p, s.wf) → x.wf → (v.set p x).1.wf
  | [], v, x, _, _, _, hx => hx
  | [s], v, x, h, hf, hs, hx => V.put_wf h hf.part (hs s (by simp)) hx
  | s :: t :: r, v, x, h, hf, hs, hx => by
    unfold V.set
    split
    · exact V.wf_nil
    · rename_i he
      have hlt := V.fnd_lt hf.part (by simpa using he)
      split
      · exact V.wf_nil
      · exact V.setAt_wf h (V.set_wf (h.kid (V.kid_mem hlt)) (hf.kid (V.kid_mem hlt)) (fun s hs' => hs s (List.mem_cons_of_mem _ hs')) hx)
theorem V.setv_wf {v x : V} {p : List StT} (h : v.wf) (hs : ∀ s ∈ p, s.wf) (hx : x.wf) : (v.setv p x).1.wf := by
  unfold V.setv
  split
  · exact V.wf_nil
  · rename_i he
    split
    · exact V.wf_nil
    · split
      · exact V.wf_nil
      · split
        · exact V.wf_nil
        · exact V.set_wf h (V.fine_of (by simpa using he)) hs hx
end Go.Proofs.Ytkiankpmkglhcaa.J

/- What the inputs of the value laws read as. -/
namespace Go.Proofs.Ytkiankpmkglhcaa.J
open Go Go.RowKit
set_option linter.unusedVariables false
set_option linter.unusedSimpArgs false
set_option maxRecDepth 10000
set_option maxHeartbeats 4000000
theorem StT.rd {H : Type} {enc : TypeId × Value → H} {w : World} : ∀ (fuel : Nat) (cs : List Value) (x : DataW H × List MemPlace), trd enc Try.prog w fuel 48 cs = some x → Fits Try.prog 48 x.1 → ∃ v : StT, v.wf ∧ RdC w cs (v.cs) := by
  intro fuel
  intro cs x h hf
  obtain ⟨xs, n, rfl, rfl, hl, hlen, hg⟩ := DataW.trod_struct Try.underlying48 h
  obtain ⟨y0, y1, y2, rfl⟩ : ∃ y0 y1 y2, xs = [y0, y1, y2] := by
    match xs, hlen with
    | [y0, y1, y2], _ => exact ⟨y0, y1, y2, rfl⟩
  have h0 := hg 0 _ rfl
  obtain ⟨a0, r0⟩ := rd_bool Try.underlying4 h0
  have h1 := hg 1 _ rfl
  obtain ⟨a1, b1, r1⟩ := rd_str Try.underlying9 h1 (Fits.field Try.underlying48 hf (i := 1) rfl rfl)
  have h2 := hg 2 _ rfl
  obtain ⟨a2, b2, r2⟩ := rd_i64 Try.underlying3 h2
  refine ⟨⟨a0, a1, a2⟩, ⟨b1, b2⟩, ?_⟩
  have := (RdC.join r0 (by kernel_rfl) (by kernel_rfl) ((RdC.join r1 (by kernel_rfl) (by kernel_rfl) (RdC.last r2 (hl.trans (by kernel_rfl))))))
  simpa [StT.cs] using this
end Go.Proofs.Ytkiankpmkglhcaa.J

/- What is set is got; what parts from its path stays. -/
namespace Go.Proofs.Ytkiankpmkglhcaa.J
open Go Go.RowKit
set_option linter.unusedVariables false
set_option linter.unusedSimpArgs false
def sameSt (s t : StT) : Bool := (s.isKey == t.isKey) && (s.isKey && (s.key == t.key) || !s.isKey && (s.index == t.index))
def sameP : List StT → List StT → Bool
  | s :: r, t :: q => sameSt s t && sameP r q
  | _, _ => true
theorem sameP_nil (p : List StT) : sameP p [] = true := by cases p <;> rfl
theorem V.fnd_same {v : V} {s t : StT} (h : sameSt s t = true) : v.fnd t = v.fnd s := by
  obtain ⟨k, n, i⟩ := s
  obtain ⟨k', n', i'⟩ := t
  simp only [sameSt, Bool.and_eq_true, beq_iff_eq, Bool.or_eq_true, Bool.not_eq_true'] at h
  obtain ⟨rfl, h⟩ := h
  rcases h with ⟨rfl, rfl⟩ | ⟨rfl, rfl⟩ <;> rfl
theorem V.setAt_fnd {v x : V} {i : Nat} (s : StT) : (v.setAt i x).fnd s = v.fnd s := by
  unfold V.fnd
  rw [show (v.setAt i x).items.length = v.items.length from List.length_set]
  rfl
theorem V.kid_of {v : V} {i : Nat} {x : V} (h : v.items[i]? = some x) : v.kid i = x := by simp [V.kid, List.getD, h]
theorem V.setAt_kid {v x : V} {i : Nat} (h : i < v.items.length) : (v.setAt i x).kid i = x := by
  refine V.kid_of ?_
  show (v.items.set i x)[i]? = some x
  simp [h]
theorem V.setAt_kid_ne {v x : V} {i j : Nat} (h : i ≠ j) : (v.setAt i x).kid j = v.kid j := by
  simp [V.setAt, V.kid, V.items, List.getD, List.getElem?_set_ne h]
theorem V.fnd_key {v : V} {s : StT} {i : Nat} (hs : s.isKey = true) (h : v.fnd s = (i, 0)) : v.kind = 5 ∧ v.keys[i]? = some s.key := by
  unfold V.fnd at h
  rw [if_pos hs] at h
  split at h
  · rename_i hk
    refine ⟨hk, ?_⟩
    split at h
    · rename_i h3; cases h; exact h3
    · cases h
  · cases h
theorem V.fnd_idx {v : V} {s : StT} {i : Nat} (hs : s.isKey = false) (h : v.fnd s = (i, 0)) : v.kind = 4 ∧ s.index = (i : Int) ∧ i < v.items.length := by
  unfold V.fnd at h
  rw [if_neg (by simp [hs])] at h
  split at h
  · rename_i hk
    split at h
    · cases h
    · rename_i h3; cases h
      exact ⟨hk, by omega, by omega⟩
  · cases h
theorem V.key_fnd {v : V} {s : StT} {i : Nat} (hf : v.Fine) (hs : s.isKey = true) (hk : v.kind = 5) (h : v.keys[i]? = some s.key) : v.fnd s = (i, 0) := by
  obtain ⟨hi, he⟩ := List.getElem?_eq_some_iff.1 h
  have hl := low_eq (hf.sorted hk) hi he
  unfold V.fnd
  rw [if_pos hs, if_pos hk, hl, if_pos h]
theorem V.idx_fnd {v : V} {s : StT} {i : Nat} (hs : s.isKey = false) (hk : v.kind = 4) (h : s.index = (i : Int)) (hi : i < v.items.length) : v.fnd s = (i, 0) := by
  unfold V.fnd
  rw [if_neg (by simp [hs]), if_pos hk, if_neg (by omega), h]
  rfl
/-- Steps that differ go to other items. -/
theorem V.fnd_ne {v : V} {s t : StT} {i j : Nat} (hd : sameSt s t = false) (h1 : v.fnd s = (i, 0)) (h2 : v.fnd t = (j, 0)) : i ≠ j := by
  intro e
  subst e
  cases hs : s.isKey <;> cases ht : t.isKey
  · have a := V.fnd_idx hs h1; have b := V.fnd_idx ht h2
    simp [sameSt, hs, ht] at hd
    exact hd (by omega)
  · have a := V.fnd_idx hs h1; have b := V.fnd_key ht h2
    omega
  · have a := V.fnd_key hs h1; have b := V.fnd_idx ht h2
    omega
  · have a := V.fnd_key hs h1; have b := V.fnd_key ht h2
    simp [sameSt, hs, ht] at hd
    exact hd (Option.some.inj (a.2.symm.trans b.2))
theorem get_ins {α : Type} {l : List α} {x : α} {m : Nat} (hm : m ≤ l.length) : (l.take m ++ [x] ++ l.drop m)[m]? = some x := by
  rw [List.append_assoc, List.getElem?_append_right (by simp; omega)]
  simp [Nat.min_eq_left hm]
theorem get_ins_ne {α : Type} {l : List α} {x : α} {m j : Nat} (hm : m ≤ l.length) : (l.take m ++ [x] ++ l.drop m)[if j < m then j else j + 1]? = l[j]? := by
  split
  · rename_i h
    rw [List.append_assoc, List.getElem?_append_left (by simp; omega), List.getElem?_take, if_pos h]
  · rename_i h
    rw [List.getElem?_append_right (by simp; omega), List.getElem?_drop]
    congr 1
    simp; omega
/-- What a step that found nothing said, and the place that is made. -/
theorem V.grw_ok {v : V} {s : StT} {m : Nat} (hf : v.Fine) (h0 : (v.fnd s).2 ≠ 0) (h : v.grw s (v.fnd s).1 (v.fnd s).2 = (m, 0)) :
    (s.isKey = true ∧ v.kind = 5 ∧ m = low v.keys s.key ∧ v.keys.length = v.items.length) ∨ (s.isKey = false ∧ v.kind = 4 ∧ m = v.items.length ∧ s.index = (m : Int)) := by
  cases hs : s.isKey
  · refine .inr ?_
    have hd : v.fnd s = if v.kind = 4 then (if s.index < 0 ∨ (v.items.length : Int) ≤ s.index then (0, 82) else (s.index.toNat, 0)) else (0, 81) := by unfold V.fnd; rw [if_neg (by simp [hs])]
    split at hd
    · rename_i hk
      split at hd
      · rw [hd] at h
        simp only [V.grw] at h
        rw [if_neg (by simp)] at h
        split at h
        · rename_i h2
          split at h
          · cases h
          · cases h; exact ⟨rfl, hk, rfl, h2.2⟩
        · rw [if_pos (by decide)] at h; cases h
      · rw [hd] at h0; exact absurd rfl h0
    · rw [hd] at h
      simp only [V.grw] at h
      rw [if_neg (by simp), if_neg (by simp), if_pos (by decide)] at h; cases h
  · refine .inl ?_
    have hd : v.fnd s = if v.kind = 5 then (low v.keys s.key, if v.keys[low v.keys s.key]? = some s.key then 0 else 71) else (0, 81) := by unfold V.fnd; rw [if_pos hs]
    split at hd
    · rename_i hk
      split at hd
      · rw [hd] at h0; exact absurd rfl h0
      · rw [hd] at h
        simp only [V.grw] at h
        split at h
        · cases h
        · rw [if_neg (by simp), if_neg (by simp)] at h
          split at h
          · cases h
          · cases h; exact ⟨rfl, hk, rfl, (partOk_rec hf.part hk).1⟩
    · rw [hd] at h
      simp only [V.grw] at h
      rw [if_neg (by simp), if_neg (by simp), if_pos (by decide)] at h; cases h
theorem V.ins_items {v x : V} {s : StT} {m : Nat} : (v.ins s m x).items = v.items.take m ++ [x] ++ v.items.drop m := rfl
theorem V.ins_keys {v x : V} {s : StT} {m : Nat} (h : s.isKey = true) : (v.ins s m x).keys = v.keys.take m ++ [s.key] ++ v.keys.drop m := by show (if _ then _ else _) = _; rw [if_pos h]
/-- One step: what is put is found. -/
theorem V.put_got {v w x : V} {s : StT} (hf : v.Fine) (hw : w.Fine) (h : v.put s x = (w, 0)) : (w.fnd s).2 = 0 ∧ w.kid (w.fnd s).1 = x := by
  unfold V.put at h
  split at h
  · rename_i h0
    cases h
    rw [V.setAt_fnd]
    exact ⟨h0, V.setAt_kid (V.fnd_lt hf.part h0)⟩
  · rename_i h0
    split at h
    · rename_i hg
      cases h
      obtain ⟨m, hm⟩ : ∃ m, m = (v.grw s (v.fnd s).1 (v.fnd s).2).1 := ⟨_, rfl⟩
      rw [← hm] at hw ⊢
      have hg2 : v.grw s (v.fnd s).1 (v.fnd s).2 = (m, 0) := Prod.ext hm.symm hg
      rcases V.grw_ok hf h0 hg2 with ⟨h1, h2, h3, h4⟩ | ⟨h1, h2, h3, h4⟩
      · have hle : m ≤ v.keys.length := h3 ▸ low_le _ _
        rw [V.key_fnd hw h1 h2 (i := m) (by rw [V.ins_keys h1]; exact get_ins hle)]
        exact ⟨rfl, V.kid_of (by rw [V.ins_items]; exact get_ins (by omega))⟩
      · rw [V.idx_fnd (v := v.ins s m x) h1 h2 h4 (by rw [V.ins_items]; simp; omega)]
        exact ⟨rfl, V.kid_of (by rw [V.ins_items]; exact get_ins (by omega))⟩
    · rename_i hg
      exact absurd (congrArg (·.2) h) hg
/-- One step: what is found elsewhere stays. -/
theorem V.put_kept {v w x : V} {s t : StT} {i : Nat} (hf : v.Fine) (hw : w.Fine) (h : v.put s x = (w, 0)) (hd : sameSt s t = false) (ht : v.fnd t = (i, 0)) : (w.fnd t).2 = 0 ∧ w.kid (w.fnd t).1 = v.kid i := by
  have hil : i < v.items.length := by have := V.fnd_lt (s := t) hf.part (by rw [ht]); rwa [ht] at this
  unfold V.put at h
  split at h
  · rename_i h0
    cases h
    rw [V.setAt_fnd, ht]
    exact ⟨rfl, V.setAt_kid_ne (V.fnd_ne hd (Prod.ext rfl h0) ht)⟩
  · rename_i h0
    split at h
    · rename_i hg
      cases h
      obtain ⟨m, hm⟩ : ∃ m, m = (v.grw s (v.fnd s).1 (v.fnd s).2).1 := ⟨_, rfl⟩
      rw [← hm] at hw ⊢
      have hg2 : v.grw s (v.fnd s).1 (v.fnd s).2 = (m, 0) := Prod.ext hm.symm hg
      have hki : v.items[i]? = some (v.kid i) := by rw [V.kid_eq hil]; exact List.getElem?_eq_getElem hil
      rcases V.grw_ok hf h0 hg2 with ⟨h1, h2, h3, h4⟩ | ⟨h1, h2, h3, h4⟩
      · have hle : m ≤ v.keys.length := h3 ▸ low_le _ _
        have htk : t.isKey = true := by
          cases hx : t.isKey with
          | true => rfl
          | false => have := V.fnd_idx hx ht; omega
        obtain ⟨-, hki2⟩ := V.fnd_key htk ht
        rw [V.key_fnd hw htk h2 (i := if i < m then i else i + 1) (by rw [V.ins_keys h1, get_ins_ne hle]; exact hki2)]
        exact ⟨rfl, V.kid_of (by rw [V.ins_items, get_ins_ne (by omega)]; exact hki)⟩
      · have htk : t.isKey = false := by
          cases hx : t.isKey with
          | false => rfl
          | true => have := V.fnd_key hx ht; omega
        obtain ⟨-, hix, -⟩ := V.fnd_idx htk ht
        rw [V.idx_fnd (v := v.ins s m x) (i := i) htk h2 hix (by rw [V.ins_items]; simp; omega)]
        refine ⟨rfl, V.kid_of ?_⟩
        have := get_ins_ne (l := v.items) (x := x) (m := m) (j := i) (by omega)
        rw [if_pos (by omega)] at this
        rw [V.ins_items, this]; exact hki
    · rename_i hg
      exact absurd (congrArg (·.2) h) hg
theorem V.set_two {v w x : V} {s t : StT} {r : List StT} (h : v.set (s :: t :: r) x = (w, 0)) : (v.fnd s).2 = 0 ∧ ∃ k, (v.kid (v.fnd s).1).set (t :: r) x = (k, 0) ∧ w = v.setAt (v.fnd s).1 k := by
  unfold V.set at h
  split at h
  · rename_i h0; exact absurd (congrArg (·.2) h) h0
  · rename_i h0
    split at h
    · rename_i h1; exact absurd (congrArg (·.2) h) h1
    · rename_i h1
      cases h
      exact ⟨by simpa using h0, _, Prod.ext rfl (by simpa using h1), rfl⟩
theorem V.set_got : ∀ {p : List StT} {v w x : V}, v.Fine → w.Fine → v.set p x = (w, 0) → w.walk p = (x, 0)
  | [], v, w, x, _, _, h => by
    have : (x, (0 : Int)) = (w, 0) := h
    cases this; rfl
  | [s], v, w, x, hf, hw, h => by
    obtain ⟨h1, h2⟩ := V.put_got hf hw h
    rw [V.walk, if_neg (by simp [h1]), h2]; rfl
  | s :: t :: r, v, w, x, hf, hw, h => by
    obtain ⟨h0, k, hk, rfl⟩ := V.set_two h
    have hlt := V.fnd_lt hf.part h0
    have hkid : (v.setAt (v.fnd s).1 k).kid (v.fnd s).1 = k := V.setAt_kid hlt
    have hkf : k.Fine := hkid ▸ hw.kid (V.kid_mem (by simpa [V.setAt, V.items] using hlt))
    rw [V.walk, V.setAt_fnd, if_neg (by simp [h0]), hkid]
    exact V.set_got (hf.kid (V.kid_mem hlt)) hkf hk
theorem V.set_kept : ∀ {p o : List StT} {v w x y : V}, v.Fine → w.Fine → v.set p x = (w, 0) → sameP p o = false → v.walk o = (y, 0) → w.walk o = (y, 0)
  | [], o, v, w, x, y, _, _, _, hs, _ => by simp [sameP] at hs
  | s :: r, [], v, w, x, y, _, _, _, hs, _ => by simp [sameP] at hs
  | [s], t :: q, v, w, x, y, hf, hw, h, hs, hy => by
    have hd : sameSt s t = false := by simpa [sameP] using hs
    rw [V.walk] at hy
    split at hy
    · rename_i h0; exact absurd (congrArg (·.2) hy) h0
    · rename_i h0
      obtain ⟨h1, h2⟩ := V.put_kept hf hw h hd (i := (v.fnd t).1) (Prod.ext rfl (by simpa using h0))
      rw [V.walk, if_neg (by simp [h1]), h2]
      exact hy
  | s :: s2 :: r, t :: q, v, w, x, y, hf, hw, h, hs, hy => by
    obtain ⟨h0, k, hk, rfl⟩ := V.set_two h
    have hlt := V.fnd_lt hf.part h0
    have hkid : (v.setAt (v.fnd s).1 k).kid (v.fnd s).1 = k := V.setAt_kid hlt
    have hkf : k.Fine := hkid ▸ hw.kid (V.kid_mem (by simpa [V.setAt, V.items] using hlt))
    rw [V.walk] at hy
    split at hy
    · rename_i h0; exact absurd (congrArg (·.2) hy) h0
    · rename_i ht
      rw [V.walk, V.setAt_fnd, if_neg ht]
      cases hd : sameSt s t with
      | true =>
        rw [V.fnd_same hd] at hy ⊢
        rw [hkid]
        have hs2 : sameP (s2 :: r) q = false := by rw [sameP, hd, Bool.true_and] at hs; exact hs
        exact V.set_kept (hf.kid (V.kid_mem hlt)) hkf hk hs2 hy
      | false =>
        rw [V.setAt_kid_ne (V.fnd_ne hd (Prod.ext rfl h0) (Prod.ext rfl (by simpa using ht)))]
        exact hy
theorem V.setv_nil {v x : V} {p : List StT} (h : (v.setv p x).2 ≠ 0) : (v.setv p x).1 = .nil := by
  unfold V.setv at h ⊢
  (repeat' split) <;> first | rfl | skip
  all_goals simp_all
theorem V.setv_inv {v w x : V} {p : List StT} (h : v.setv p x = (w, 0)) : v.err = 0 ∧ x.err = 0 ∧ v.set p x = (w, 0) ∧ w.err = 0 := by
  unfold V.setv at h
  split at h
  · rename_i h1; exact absurd (congrArg (·.2) h) h1
  · rename_i h1
    split at h
    · rename_i h2; exact absurd (congrArg (·.2) h) h2
    · rename_i h2
      split at h
      · rename_i h3; exact absurd (congrArg (·.2) h) h3
      · rename_i h3
        split at h
        · rename_i h4; exact absurd (congrArg (·.2) h) h4
        · rename_i h4
          have hw : (v.set p x).1 = w := congrArg (·.1) h
          exact ⟨by simpa using h1, by simpa using h2, Prod.ext hw (by simpa using h3), by rw [← hw]; simpa using h4⟩
theorem V.sets_got {v x : V} {p : List StT} (h : (v.setv p x).2 = 0) : (v.setv p x).1.getv p = (x, 0) := by
  obtain ⟨h1, h2, h3, h4⟩ := V.setv_inv (w := (v.setv p x).1) (Prod.ext rfl h)
  rw [V.getv, if_neg (by simp [h4])]
  exact V.set_got (V.fine_of h1) (V.fine_of h4) h3
theorem V.sets_kept {v x : V} {p o : List StT} (h : (v.setv p x).2 = 0) (hs : sameP p o = false) (hg : (v.getv o).2 = 0) : (v.setv p x).1.getv o = v.getv o := by
  obtain ⟨h1, h2, h3, h4⟩ := V.setv_inv (w := (v.setv p x).1) (Prod.ext rfl h)
  have hv : v.getv o = v.walk o := by rw [V.getv, if_neg (by simp [h1])]
  rw [hv] at hg ⊢
  rw [V.getv, if_neg (by simp [h4])]
  exact (V.set_kept (y := (v.walk o).1) (V.fine_of h1) (V.fine_of h4) h3 hs (Prod.ext rfl hg)).trans (Prod.ext rfl hg.symm)
theorem sameP_drop {p o : List StT} {k : Nat} (h1 : k < p.length) (h2 : k < o.length) : sameP (p.drop k) (o.drop k) = (sameSt p[k] o[k] && sameP (p.drop (k + 1)) (o.drop (k + 1))) := by
  rw [List.drop_eq_getElem_cons h1, List.drop_eq_getElem_cons h2, sameP]
theorem sameP_end {p o : List StT} {k : Nat} (h : p.length ≤ k ∨ o.length ≤ k) : sameP (p.drop k) (o.drop k) = true := by
  rcases h with h | h
  · rw [List.drop_of_length_le h]; rfl
  · rw [List.drop_of_length_le h]; exact sameP_nil _
end Go.Proofs.Ytkiankpmkglhcaa.J

/- Regions that draw their order, with allocations that hang on nothing among their operations. -/
namespace Go.Proofs.Ytkiankpmkglhcaa.J
open Go Go.RowKit
set_option linter.unusedVariables false
set_option linter.unusedSimpArgs false
/-- Allocations: their places in the region, their slots, the cells of a new one. -/
abbrev Al := List (Nat × Nat × List AV)
def ExR (ex : List Own) (R : List Own → AV → List Own → Prop) (ow : List Own) : List Own → AV → List Own → Prop := fun _ x o' => ∃ o1, o'.Perm (o1 ++ ex) ∧ R ow x o1
/-- An allocation, unguarded. -/
def AllocOp (P : Program) (o : Oper) (d : Nat) (z : List AV) : Prop :=
  ∃ t ty pos af vs, o = ⟨some d, .alloc t, ty, pos, af, none⟩ ∧ zeroCells P t = some vs ∧ vs.all (·.oneCell') = true ∧ z = vs.map AV.c
theorem AllocOp.dst {P : Program} {o : Oper} {d : Nat} {z : List AV} (h : AllocOp P o d z) : o.dst = some d := by
  obtain ⟨t, ty, pos, af, vs, rfl, _⟩ := h; rfl
theorem AllocOp.guard {P : Program} {o : Oper} {d : Nat} {z : List AV} (h : AllocOp P o d z) : o.guard = none := by
  obtain ⟨t, ty, pos, af, vs, rfl, _⟩ := h; rfl
theorem AllocOp.mk {P : Program} {t : TypeId} {ty : TypeId} {pos : String} {af : Array Edge} {d : Nat} {vs : List Value} (hz : zeroCells P t = some vs) (h1 : vs.all (·.oneCell') = true) : AllocOp P ⟨some d, .alloc t, ty, pos, af, none⟩ d (vs.map AV.c) := ⟨t, ty, pos, af, vs, rfl, hz, h1, rfl⟩
theorem AllocOp.run {P : Program} {E : Ent} {o : Oper} {d : Nat} {z : List AV} (h : AllocOp P o d z) {n : Nat} {env : List (Nat × AV)} {own ex : List Own} {F : List (Value × AV)} {D : List Deferred} {A : Foot} {a : Act} {w : World} {Qx : Exit → Act → World → Prop}
    (hA : SatA E A ⟨n, env, own ++ ex, F, D⟩ a w) (K : Act → World → Prop)
    (hK : ∀ b w', Frm w A w' A → SatA E A ⟨n, env, .box b z :: (own ++ ex), F, D⟩ a w' → K (a.put o.dst (.pointer (some ⟨b, 0, none⟩))) w') : o.wpIn (fen E.rd) 0 P a w K Qx := by
  obtain ⟨t, ty, pos, af, vs, rfl, hz, h1, rfl⟩ := h
  refine wpR (by intro c h; cases h) ?_
  unfold Oper.wp
  obtain ⟨i, zv, h2, h3, h4⟩ : ∃ i zv, P.info? t = some i ∧ i.zero = some zv ∧ zv.cells.toList = vs := by
    unfold zeroCells at hz
    cases hi : P.info? t with
    | none => rw [hi] at hz; cases hz
    | some i =>
      rw [hi] at hz
      cases hzz : i.zero with
      | none => simp [hzz] at hz
      | some zv => exact ⟨i, zv, rfl, hzz, by simpa [hzz] using hz⟩
  have hr : (execOp a.eval ⟨some d, .alloc t, ty, pos, af, none⟩).run P w = .ok (.value (.pointer (some ⟨w.heap.size, 0, none⟩))) (World.pushed w (.cells vs.toArray t)) := by
    subst h4
    simp [execOp, Instr.alloc, zeroValue, run_typeInfo h2, h3, newVar, newRow, World.pushed]
  rw [hr, Oper.upon_value]
  have hs := hA.step (.push _ _ _) (fun _ _ h => h) (hA.hp.push_box (us := vs.toArray) (t := t) hA.keep.size (by simp) (.const h1))
  refine hK w.heap.size _ (fun v x hx => hx.move (fun _ _ h _ => h) (fun fr b hb _ => (Keep.push [] _ _).block b (hA.hp.lt fr b hb) (by simp))) hs
inductive AnyA (P : Program) (E : Ent) (Q : Exit → St → Prop) (ops : Array Oper) (n : Nat) (env : List (Nat × AV)) (own : List Own) (R : Outs → List Own → AV → List Own → Prop) (M : Nat) (F : List (Value × AV)) (D : List Deferred) : Nat → Nat → Nat → List Oper → List Slot → List Slot → List (Option Nat) → Al → Prop
  | nil (i p : Nat) (don : List Slot) : AnyA P E Q ops n env own R M F D i M p [] don don [] []
  | quiet {i j p : Nat} {o : Oper} {os : List Oper} {don all : List Slot} {lv : List (Option Nat)} {ds : Al} {d : Nat} {x : AV} {env' : List (Nat × AV)} (hd : o.dst = some d) (hn : Nat.blt d n = true) (he : EnvOkR o don env env')
      (hs : ∀ os' ex, vdO own R os' → os'.length ≤ M → Step P E ops ⟨n, env', curO own os' ++ ex, F, D⟩ o x) (h : AnyA P E Q ops n env own R M F D (i + 1) j p os (don ++ [(d, .inl x)]) all lv ds) : AnyA P E Q ops n env own R M F D i j p (o :: os) don all (none :: lv) ds
  | alloc {i j p : Nat} {o : Oper} {os : List Oper} {don all : List Slot} {lv : List (Option Nat)} {ds : Al} {d : Nat} {z : List AV} (ha : AllocOp P o d z) (hn : Nat.blt d n = true)
      (h : AnyA P E Q ops n env own R M F D (i + 1) j p os (don ++ [(n + i, .inl (.c undef))]) all lv ds) : AnyA P E Q ops n env own R M F D i j p (o :: os) don all (none :: lv) ((i, d, z) :: ds)
  | loud {i j p : Nat} {o : Oper} {os : List Oper} {don all : List Slot} {lv : List (Option Nat)} {ds : Al} {env' : Outs → List (Nat × AV)} {s : Nat} (hd : (o.dst = none ∧ s = n + i ∧ ∀ os ow x o', R os ow x o' → os.length = j → x = .c undef) ∨ (o.dst = some s ∧ s < n)) (hg : o.guard = none) (he : ∀ os', os'.length = j → EnvOkO o don env (env' os') os') (hp : (Nat.beq j 0 || depsOk o [p]) = true)
      (hs : ∀ os' ex, vdO own R os' → os'.length = j → LStepR P E Q ⟨n, env' os', curO own os' ++ ex, F, D⟩ (ExR ex (R os') (curO own os')) o) (h : AnyA P E Q ops n env own R M F D (i + 1) (j + 1) i os (don ++ [(s, .inr (j, id))]) all lv ds) : AnyA P E Q ops n env own R M F D i j p (o :: os) don all (some j :: lv) ds
  | dep {i j p : Nat} {o : Oper} {os : List Oper} {don all : List Slot} {lv : List (Option Nat)} {ds : Al} {d q i' s' : Nat} {g g' : AV → AV} {env' : AV → List (Nat × AV)} (hd : o.dst = some d) (hn : Nat.blt d n = true) (hi' : depsOk o [i'] = true) (hq : don[i']? = some (s', .inr (q, g')))
      (he : ∀ os', EnvOkO o don env (env' (nthO os' q)) os') (hs : ∀ y own', (∃ hs o', hs.length = q ∧ vdO own R hs ∧ R hs (curO own hs) y o') → Step P E ops ⟨n, env' y, own', F, D⟩ o (g y))
      (h : AnyA P E Q ops n env own R M F D (i + 1) j p os (don ++ [(d, .inr (q, g))]) all lv ds) : AnyA P E Q ops n env own R M F D i j p (o :: os) don all (none :: lv) ds
section
variable {P : Program} {E : Ent} {Q : Exit → St → Prop} {n : Nat} {env : List (Nat × AV)} {own : List Own} {R : Outs → List Own → AV → List Own → Prop} {M : Nat} {F : List (Value × AV)} {D : List Deferred} {ops : Array Oper}
theorem AnyA.get {i j p : Nat} {os : List Oper} {don all : List Slot} {lv : List (Option Nat)} {ds : Al} (h : AnyA P E Q ops n env own R M F D i j p os don all lv ds) (hi : don.length = i) :
    (∃ r, all = don ++ r) ∧ all.length = don.length + os.length ∧ lv.length = os.length ∧ j ≤ M ∧
    (∀ (k q : Nat), lv[k]? = some (some q) → j ≤ q ∧ q < M) ∧
    (∀ (k k' q : Nat), lv[k]? = some (some q) → lv[k']? = some (some q) → k = k') ∧
    (∀ q, j ≤ q → q < M → ∃ k : Nat, lv[k]? = some (some q)) ∧
    (∀ p ∈ ds, i ≤ p.1 ∧ p.1 < i + os.length) ∧ (ds.map (·.1)).Nodup ∧
    ∀ k o, os[k]? = some o →
      (lv[k]? = some none ∧ ∃ d x env', all[i + k]? = some (d, .inl x) ∧ o.dst = some d ∧ d < n ∧ EnvOkR o (all.take (i + k)) env env' ∧ (∀ p ∈ ds, p.1 ≠ i + k) ∧ ∀ os' ex, vdO own R os' → os'.length ≤ M → Step P E ops ⟨n, env', curO own os' ++ ex, F, D⟩ o x) ∨
      (lv[k]? = some none ∧ all[i + k]? = some (n + (i + k), .inl (.c undef)) ∧ ∃ d z, (i + k, d, z) ∈ ds ∧ d < n ∧ AllocOp P o d z) ∨
      (lv[k]? = some none ∧ ∃ (d q i' s' : Nat) (g g' : AV → AV) (env' : AV → List (Nat × AV)), all[i + k]? = some (d, .inr (q, g)) ∧ o.dst = some d ∧ d < n ∧ depsOk o [i'] = true ∧ (all.take (i + k))[i']? = some (s', .inr (q, g')) ∧ (∀ os', EnvOkO o (all.take (i + k)) env (env' (nthO os' q)) os') ∧ (∀ p ∈ ds, p.1 ≠ i + k) ∧
        ∀ y own', (∃ hs o', hs.length = q ∧ vdO own R hs ∧ R hs (curO own hs) y o') → Step P E ops ⟨n, env' y, own', F, D⟩ o (g y)) ∨
      (∃ (q : Nat) (env' : Outs → List (Nat × AV)) (s : Nat), lv[k]? = some (some q) ∧ all[i + k]? = some (s, .inr (q, id)) ∧ ((o.dst = none ∧ s = n + (i + k) ∧ ∀ os ow x o', R os ow x o' → os.length = q → x = .c undef) ∨ (o.dst = some s ∧ s < n)) ∧ o.guard = none ∧ (∀ os', os'.length = q → EnvOkO o (all.take (i + k)) env (env' os') os') ∧ (∀ p ∈ ds, p.1 ≠ i + k) ∧ (∀ os' ex, vdO own R os' → os'.length = q → LStepR P E Q ⟨n, env' os', curO own os' ++ ex, F, D⟩ (ExR ex (R os') (curO own os')) o) ∧
        (q = j → j = 0 ∨ depsOk o [p] = true) ∧ (j < q → ∃ k', lv[k']? = some (some (q - 1)) ∧ depsOk o [i + k'] = true)) := by
  induction h with
  | nil i p don => exact ⟨⟨[], by simp⟩, by simp, rfl, Nat.le_refl _, fun k q h => by simp at h, fun k k' q h => by simp at h, fun q h1 h2 => by omega, (fun p h => by cases h), List.nodup_nil, fun k o h => by simp at h⟩
  | quiet hd hn hds hs _ ih =>
    rename_i i j p o os don all lv ds d x env' _
    obtain ⟨⟨r, hr⟩, hl, hlv, hjM, hq, hinj, hsur, hdb, hdn', hk⟩ := ih (by simp [hi])
    refine ⟨⟨(d, .inl x) :: r, by rw [hr]; simp⟩, by simp at hl ⊢; omega, by simp [hlv], hjM, fun k q hkq => ?_, fun k k' q h1 h2 => ?_, fun q h1 h2 => (by obtain ⟨k, hk'⟩ := hsur q h1 h2; exact ⟨k + 1, by simpa using hk'⟩), (fun p hp => by have := hdb p hp; simp only [List.length_cons]; omega), hdn', fun k o' ho' => ?_⟩
    · cases k with
      | zero => simp at hkq
      | succ k => exact hq k q (by simpa using hkq)
    · cases k with
      | zero => simp at h1
      | succ k =>
        cases k' with
        | zero => simp at h2
        | succ k' => rw [hinj k k' q (by simpa using h1) (by simpa using h2)]
    · cases k with
      | zero =>
        simp at ho'; subst ho'
        have : all.take (i + 0) = don := by rw [hr, ← hi]; simp
        exact .inl ⟨by simp, d, x, env', by rw [hr, ← hi]; simp, hd, blt_lt hn, by rw [this]; exact hds, (fun p hp => by have := hdb p hp; omega), hs⟩
      | succ k =>
        have := hk k o' (by simpa using ho')
        rw [show i + (k + 1) = i + 1 + k by omega]
        rcases this with ⟨h1, h2⟩ | ⟨h1, h2⟩ | ⟨h1, h2⟩ | ⟨q, ds', s', h1, h2, h3, h4, h5, h6, h6', h7, h8⟩
        · exact .inl ⟨by simpa using h1, h2⟩
        · exact .inr (.inl ⟨by simpa using h1, h2⟩)
        · exact .inr (.inr (.inl ⟨by simpa using h1, h2⟩))
        · refine .inr (.inr (.inr ⟨q, ds', s', by simpa using h1, h2, h3, h4, h5, h6, h6', h7, fun hlt => ?_⟩))
          obtain ⟨k', hk', hd'⟩ := h8 hlt
          exact ⟨k' + 1, by simpa using hk', by rw [show i + (k' + 1) = i + 1 + k' by omega]; exact hd'⟩
  | alloc ha hn _ ih =>
    rename_i i j p o os don all lv ds d z _
    obtain ⟨⟨r, hr⟩, hl, hlv, hjM, hq, hinj, hsur, hdb, hdn', hk⟩ := ih (by simp [hi])
    refine ⟨⟨(n + i, .inl (.c undef)) :: r, by rw [hr]; simp⟩, by simp at hl ⊢; omega, by simp [hlv], hjM, fun k q hkq => ?_, fun k k' q h1 h2 => ?_, fun q h1 h2 => (by obtain ⟨k, hk'⟩ := hsur q h1 h2; exact ⟨k + 1, by simpa using hk'⟩), (fun p hp => by
      rcases List.mem_cons.1 hp with rfl | hp
      · simp
      · have := hdb p hp; simp only [List.length_cons]; omega), (by
      rw [List.map_cons, List.nodup_cons]
      refine ⟨fun hm => ?_, hdn'⟩
      obtain ⟨p, hp, he⟩ := List.mem_map.1 hm
      have := hdb p hp
      simp only at he; omega), fun k o' ho' => ?_⟩
    · cases k with
      | zero => simp at hkq
      | succ k => exact hq k q (by simpa using hkq)
    · cases k with
      | zero => simp at h1
      | succ k =>
        cases k' with
        | zero => simp at h2
        | succ k' => rw [hinj k k' q (by simpa using h1) (by simpa using h2)]
    · cases k with
      | zero =>
        simp at ho'; subst ho'
        exact .inr (.inl ⟨by simp, by rw [hr, ← hi]; simp, d, z, by simp, blt_lt hn, ha⟩)
      | succ k =>
        have := hk k o' (by simpa using ho')
        rw [show i + (k + 1) = i + 1 + k by omega]
        rcases this with ⟨h1, h2⟩ | ⟨h1, h2⟩ | ⟨h1, h2⟩ | ⟨q, ds', s', h1, h2, h3, h4, h5, h6, h6', h7, h8⟩
        · obtain ⟨d', x', env', g1, g2, g3, g4, g5, g6⟩ := h2
          refine .inl ⟨by simpa using h1, d', x', env', g1, g2, g3, g4, (fun p hp => ?_), g6⟩
          rcases List.mem_cons.1 hp with rfl | hp
          · simp only; omega
          · exact g5 p hp
        · obtain ⟨g1, d', z', g2, g3⟩ := h2
          exact .inr (.inl ⟨by simpa using h1, g1, d', z', List.mem_cons_of_mem _ g2, g3⟩)
        · obtain ⟨d', q', i', s', g, g', env', k1, k2, k3, k4, k5, k6, k7, k8⟩ := h2
          refine .inr (.inr (.inl ⟨by simpa using h1, d', q', i', s', g, g', env', k1, k2, k3, k4, k5, k6, (fun p hp => ?_), k8⟩))
          rcases List.mem_cons.1 hp with rfl | hp
          · simp only; omega
          · exact k7 p hp
        · refine .inr (.inr (.inr ⟨q, ds', s', by simpa using h1, h2, h3, h4, h5, (fun p hp => (by
            rcases List.mem_cons.1 hp with rfl | hp
            · simp only; omega
            · exact h6 p hp)), h6', h7, fun hlt => ?_⟩))
          obtain ⟨k', hk', hd'⟩ := h8 hlt
          exact ⟨k' + 1, by simpa using hk', by rw [show i + (k' + 1) = i + 1 + k' by omega]; exact hd'⟩
  | loud hd hg hds hp hs _ ih =>
    rename_i i j p o os don all lv ds env' s _
    obtain ⟨⟨r, hr⟩, hl, hlv, hjM, hq, hinj, hsur, hdb, hdn', hk⟩ := ih (by simp [hi])
    refine ⟨⟨(s, .inr (j, id)) :: r, by rw [hr]; simp⟩, by simp at hl ⊢; omega, by simp [hlv], by omega, fun k q hkq => ?_, fun k k' q h1 h2 => ?_, fun q h1 h2 => (by
      by_cases he : q = j
      · exact ⟨0, by simp [he]⟩
      · obtain ⟨k, hk'⟩ := hsur q (by omega) h2; exact ⟨k + 1, by simpa using hk'⟩), (fun p hp => by have := hdb p hp; simp only [List.length_cons]; omega), hdn', fun k o' ho' => ?_⟩
    · cases k with
      | zero => simp at hkq; omega
      | succ k => have := hq k q (by simpa using hkq); omega
    · cases k with
      | zero =>
        cases k' with
        | zero => rfl
        | succ k' => simp at h1 h2; have := hq k' q h2; omega
      | succ k =>
        cases k' with
        | zero => simp at h1 h2; have := hq k q h1; omega
        | succ k' => rw [hinj k k' q (by simpa using h1) (by simpa using h2)]
    · cases k with
      | zero =>
        simp at ho'; subst ho'
        have : all.take (i + 0) = don := by rw [hr, ← hi]; simp
        refine .inr (.inr (.inr ⟨j, env', s, by simp, by rw [hr, ← hi]; simp, by simpa using hd, hg, by rw [this]; exact hds, (fun p hp => by have := hdb p hp; omega), hs, fun _ => ?_, fun h => by omega⟩))
        · simp only [Bool.or_eq_true] at hp
          exact hp.imp Nat.eq_of_beq_eq_true id
      | succ k =>
        have := hk k o' (by simpa using ho')
        rw [show i + (k + 1) = i + 1 + k by omega]
        rcases this with ⟨h1, h2⟩ | ⟨h1, h2⟩ | ⟨h1, h2⟩ | ⟨q, ds', s', h1, h2, h3, h4, h5, h6, h6', h7, h8⟩
        · exact .inl ⟨by simpa using h1, h2⟩
        · exact .inr (.inl ⟨by simpa using h1, h2⟩)
        · exact .inr (.inr (.inl ⟨by simpa using h1, h2⟩))
        · have hjq := (hq k q h1).1
          refine .inr (.inr (.inr ⟨q, ds', s', by simpa using h1, h2, h3, h4, h5, h6, h6', fun h => by omega, fun hlt => ?_⟩))
          by_cases he : q = j + 1
          · refine ⟨0, by simp [he], ?_⟩
            rcases h7 he with h7 | h7
            · omega
            · simpa using h7
          · obtain ⟨k', hk', hd'⟩ := h8 (by omega)
            exact ⟨k' + 1, by simpa using hk', by rw [show i + (k' + 1) = i + 1 + k' by omega]; exact hd'⟩
  | dep hd hn hi' hq' he hs _ ih =>
    rename_i i j p o os don all lv ds d q i' s' g g' env' _
    obtain ⟨⟨r, hr⟩, hl, hlv, hjM, hq, hinj, hsur, hdb, hdn', hk⟩ := ih (by simp [hi])
    refine ⟨⟨(d, .inr (q, g)) :: r, by rw [hr]; simp⟩, by simp at hl ⊢; omega, by simp [hlv], hjM, fun k q hkq => ?_, fun k k' q h1 h2 => ?_, fun q h1 h2 => (by obtain ⟨k, hk'⟩ := hsur q h1 h2; exact ⟨k + 1, by simpa using hk'⟩), (fun p hp => by have := hdb p hp; simp only [List.length_cons]; omega), hdn', fun k o' ho' => ?_⟩
    · cases k with
      | zero => simp at hkq
      | succ k => exact hq k q (by simpa using hkq)
    · cases k with
      | zero => simp at h1
      | succ k =>
        cases k' with
        | zero => simp at h2
        | succ k' => rw [hinj k k' q (by simpa using h1) (by simpa using h2)]
    · cases k with
      | zero =>
        simp at ho'; subst ho'
        have : all.take (i + 0) = don := by rw [hr, ← hi]; simp
        exact .inr (.inr (.inl ⟨by simp, d, q, i', s', g, g', env', by rw [hr, ← hi]; simp, hd, blt_lt hn, hi', by rw [this]; exact hq', by rw [this]; exact he, (fun p hp => by have := hdb p hp; omega), hs⟩))
      | succ k =>
        have := hk k o' (by simpa using ho')
        rw [show i + (k + 1) = i + 1 + k by omega]
        rcases this with ⟨h1, h2⟩ | ⟨h1, h2⟩ | ⟨h1, h2⟩ | ⟨q, ds', s', h1, h2, h3, h4, h5, h6, h6', h7, h8⟩
        · exact .inl ⟨by simpa using h1, h2⟩
        · exact .inr (.inl ⟨by simpa using h1, h2⟩)
        · exact .inr (.inr (.inl ⟨by simpa using h1, h2⟩))
        · refine .inr (.inr (.inr ⟨q, ds', s', by simpa using h1, h2, h3, h4, h5, h6, h6', h7, fun hlt => ?_⟩))
          obtain ⟨k', hk', hd'⟩ := h8 hlt
          exact ⟨k' + 1, by simpa using hk', by rw [show i + (k' + 1) = i + 1 + k' by omega]; exact hd'⟩
end
section
variable {P : Program} {E : Ent} {Q : Exit → St → Prop} {n : Nat} {env : List (Nat × AV)} {own : List Own} {R : Outs → List Own → AV → List Own → Prop} {M : Nat} {F : List (Value × AV)} {D : List Deferred} {ops : Array Oper}
def OutA (P : Program) (E : Ent) (Q : Exit → St → Prop) (ops : Array Oper) (n : Nat) (env : List (Nat × AV)) (own : List Own) (R : Outs → List Own → AV → List Own → Prop) (M : Nat) (F : List (Value × AV)) (D : List Deferred) (i j p : Nat) (os : List Oper) (don : List Slot) (da : Al) (K : List Slot → Al → Prop) : Prop :=
  i = don.length → ∃ all lv ds, AnyA P E Q ops n env own R M F D i j p os don.reverse all lv ds ∧ K all.reverse (da ++ ds)
variable {i j p : Nat} {da : Al} {K : List Slot → Al → Prop}
theorem OutA.nil {don : List Slot} (h : K don da) : OutA P E Q ops n env own R M F D i M p [] don da K := fun _ => ⟨don.reverse, _, _, .nil i p don.reverse, by rw [List.reverse_reverse, List.append_nil]; exact h⟩
theorem OutA.alloc {o : Oper} {os : List Oper} {don : List Slot} {d : Nat} {z : List AV} (ha : AllocOp P o d z) (hn : Nat.blt d n = true) (h : OutA P E Q ops n env own R M F D (i + 1) j p os ((n + i, .inl (.c undef)) :: don) (da ++ [(i, d, z)]) K) : OutA P E Q ops n env own R M F D i j p (o :: os) don da K := fun hi => by
  obtain ⟨all, lv, ds, h1, h2⟩ := h (by simp [hi])
  rw [List.reverse_cons] at h1
  exact ⟨all, _, _, .alloc ha hn h1, by simpa using h2⟩
theorem OutA.quiet {o : Oper} {os : List Oper} {don : List Slot} {d : Nat} {x : AV} (sl : List Nat) (hd : o.dst = some d) (hn : Nat.blt d n = true) (hc : chkR o sl don i = true)
    (hs : ∀ os' ex, vdO own R os' → os'.length ≤ M → Step P E ops ⟨n, selR sl don ++ env, curO own os' ++ ex, F, D⟩ o x) (h : OutA P E Q ops n env own R M F D (i + 1) j p os ((d, .inl x) :: don) da K) : OutA P E Q ops n env own R M F D i j p (o :: os) don da K := fun hi => by
  obtain ⟨all, lv, ds, h1, h2⟩ := h (by simp [hi])
  rw [List.reverse_cons] at h1
  exact ⟨all, _, _, .quiet hd hn (selR_get hi hc) hs h1, h2⟩
theorem OutA.loud {o : Oper} {os : List Oper} {don : List Slot} {d : Nat} (sl : List Nat) (hd : o.dst = some d) (hn : Nat.blt d n = true) (hg : o.guard = none) (hc : chkO o sl don i = true) (hp : (Nat.beq j 0 || depsOk o [p]) = true)
    (hs : ∀ os' ex, vdO own R os' → os'.length = j → LStepR P E Q ⟨n, selO sl os' don ++ env, curO own os' ++ ex, F, D⟩ (ExR ex (R os') (curO own os')) o) (h : OutA P E Q ops n env own R M F D (i + 1) (j + 1) i os ((d, .inr (j, id)) :: don) da K) : OutA P E Q ops n env own R M F D i j p (o :: os) don da K := fun hi => by
  obtain ⟨all, lv, ds, h1, h2⟩ := h (by simp [hi])
  rw [List.reverse_cons] at h1
  exact ⟨all, _, _, .loud (.inr ⟨hd, blt_lt hn⟩) hg (fun os' _ => selO_get (os := os') hi hc) hp hs h1, h2⟩
theorem OutA.store {o : Oper} {os : List Oper} {don : List Slot} (sl : List Nat) (hd : o.dst = none) (hu : ∀ os ow x o', R os ow x o' → os.length = j → x = .c undef) (hg : o.guard = none) (hc : chkO o sl don i = true) (hp : (Nat.beq j 0 || depsOk o [p]) = true)
    (hs : ∀ os' ex, vdO own R os' → os'.length = j → LStepR P E Q ⟨n, selO sl os' don ++ env, curO own os' ++ ex, F, D⟩ (ExR ex (R os') (curO own os')) o) (h : OutA P E Q ops n env own R M F D (i + 1) (j + 1) i os ((n + i, .inr (j, id)) :: don) da K) : OutA P E Q ops n env own R M F D i j p (o :: os) don da K := fun hi => by
  obtain ⟨all, lv, ds, h1, h2⟩ := h (by simp [hi])
  rw [List.reverse_cons] at h1
  exact ⟨all, _, _, .loud (.inl ⟨hd, rfl, hu⟩) hg (fun os' _ => selO_get (os := os') hi hc) hp hs h1, h2⟩
/-- What was made, with the q-th loud one's value. -/
def selY (sl : List Nat) (q : Nat) (y : AV) : List Slot → List (Nat × AV)
  | [] => []
  | (s, .inl x) :: don => match sl.any (Nat.beq s) with | true => (s, x) :: selY sl q y don | false => selY sl q y don
  | (s, .inr (q', g)) :: don => match Nat.beq q' q && sl.any (Nat.beq s) with | true => (s, g y) :: selY sl q y don | false => selY sl q y don
theorem selY_get {o : Oper} {sl : List Nat} {q : Nat} {os : Outs} {env : List (Nat × AV)} : ∀ {don : List Slot} {i : Nat}, i = don.length → chkO o sl don i = true → EnvOkO o don.reverse env (selY sl q (nthO os q) don ++ env) os
  | [], i, _, _ => fun s x h => .inr (by simpa [selY] using h)
  | (s0, z0) :: don, i, hi, h => fun s x hl => by
    have hi' : i - 1 = don.length := by simp at hi; omega
    have hc : chkO o sl don (i - 1) = true := by
      unfold chkO at h
      split at h
      · simp only [Bool.and_eq_true] at h; exact h.2
      · exact h
    have hd : sl.any (Nat.beq s0) = true → depsOk o [i - 1] = true := fun hb => by
      unfold chkO at h
      rw [hb] at h
      simp only [Bool.and_eq_true] at h; exact h.1
    have hrec : lk (selY sl q (nthO os q) don ++ env) s = some x → (∃ j z, depsOk o [j] = true ∧ ((s0, z0) :: don).reverse[j]? = some (s, z) ∧ x = valO os z) ∨ lk env s = some x := fun hl => by
      rcases selY_get (don := don) (i := i - 1) hi' hc s x hl with ⟨j, z, h1, h2, h3⟩ | h
      · exact .inl ⟨j, z, h1, by rw [List.reverse_cons, List.getElem?_append_left (List.getElem?_eq_some_iff.1 h2).1]; exact h2, h3⟩
      · exact .inr h
    have hlast : ((s0, z0) :: don).reverse[i - 1]? = some (s0, z0) := by rw [hi', List.reverse_cons, List.getElem?_append_right (by simp)]; simp
    cases z0 with
    | inl x0 =>
      unfold selY at hl
      split at hl
      · rename_i hb
        rcases lk_cons hl with ⟨rfl, rfl⟩ | ⟨_, hl⟩
        · exact .inl ⟨i - 1, _, hd hb, hlast, rfl⟩
        · exact hrec hl
      · exact hrec hl
    | inr p =>
      obtain ⟨q', g⟩ := p
      unfold selY at hl
      split at hl
      · rename_i hb
        simp only [Bool.and_eq_true] at hb
        have := Nat.eq_of_beq_eq_true hb.1
        subst this
        rcases lk_cons hl with ⟨rfl, rfl⟩ | ⟨_, hl⟩
        · exact .inl ⟨i - 1, _, hd hb.2, hlast, rfl⟩
        · exact hrec hl
      · exact hrec hl
theorem OutA.dep {o : Oper} {os : List Oper} {don : List Slot} {d s' : Nat} {g' : AV → AV} (q i' : Nat) (g : AV → AV) (sl : List Nat) (hd : o.dst = some d) (hn : Nat.blt d n = true) (hi' : depsOk o [i'] = true) (hq : don.reverse[i']? = some (s', .inr (q, g'))) (hc : chkO o sl don i = true)
    (hs : ∀ y own', (∃ hs o', hs.length = q ∧ vdO own R hs ∧ R hs (curO own hs) y o') → Step P E ops ⟨n, selY sl q y don ++ env, own', F, D⟩ o (g y)) (h : OutA P E Q ops n env own R M F D (i + 1) j p os ((d, .inr (q, g)) :: don) da K) : OutA P E Q ops n env own R M F D i j p (o :: os) don da K := fun hi => by
  obtain ⟨all, lv, ds, h1, h2⟩ := h (by simp [hi])
  rw [List.reverse_cons] at h1
  exact ⟨all, _, _, .dep hd hn hi' hq (fun os' => selY_get (os := os') hi hc) hs h1, h2⟩
theorem LStepR.frame {st : St} {ex own1 : List Own} {R R' : List Own → AV → List Own → Prop} {o : Oper} (h : LStepR P E Q st R o) (hR : ∀ x o', R st.own x o' → ∃ o1, o'.Perm (o1 ++ ex) ∧ R' own1 x o1) : LStepR P E Q st (ExR ex R' own1) o := fun A a w hA K hK =>
  h A a w hA K fun v x own' w' A' hR1 hf hs hv => hK v x own' w' A' (hR x own' hR1) hf hs hv
/-- An allocation: the new box comes last. -/
theorem LStepR.alloc {t ty : TypeId} {pos : String} {af : Array Edge} {d : Nat} {vs : List Value} (hz : zeroCells P t = some vs) (h1 : vs.all (·.oneCell') = true) :
    LStepR P E Q ⟨n, env, own, F, D⟩ (fun ow x o' => ∃ b, x = .c (.pointer (some ⟨b, 0, none⟩)) ∧ o' = ow ++ [.box b (vs.map AV.c)]) ⟨some d, .alloc t, ty, pos, af, none⟩ := fun A a w hA K hK =>
  (AllocOp.mk (ty := ty) (pos := pos) (af := af) (d := d) hz h1).run (E := E) (own := own) (ex := []) (by rw [List.append_nil]; exact hA) K fun b w' hf hs =>
    hK _ _ _ w' A ⟨b, rfl, rfl⟩ hf (hs.perm (by rw [List.append_nil]; exact (List.perm_append_singleton _ _).symm)) (.c _)
end
end Go.Proofs.Ytkiankpmkglhcaa.J

/- Parts of own arrays: an own array laid open as a block; slices of it as constants; copies, appends in place, clearing, room that is made. -/
namespace Go.Proofs.Ytkiankpmkglhcaa.J
open Go Go.RowKit
set_option linter.unusedVariables false
set_option linter.unusedSimpArgs false
abbrev sv (b off l c : Nat) : Value := .slice (some ⟨b, off, none⟩) l c
section
variable {P : Program} {E : Ent} {st : St} {Q : Exit → St → Prop} {n B : Nat} {env : List (Nat × AV)} {own : List Own} {F : List (Value × AV)} {D : List Deferred} {ops : Array Oper} {rest : List Oper} {c : Code}
variable {A : Foot} {a : Act} {w w' : World} {t tx et ty : TypeId} {pos : String} {af : Array Edge} {d : Nat} {dd : Option Tmp} {gd : Option (Nat × Bool)} {x y s lo hi mx : Operand} {g : Bool} {m : Nat} {k k' k'' : IntKind} {i j j' : Int}
/-! ### open and shut -/
theorem SatA.swap {i : Nat} {o o' : Own} (h : SatA E A ⟨n, env, own, F, D⟩ a w) (hi : own[i]? = some o) (hf : o'.fp = o.fp) (ho : o'.ok w A) : SatA E A ⟨n, env, own.set i o', F, D⟩ a w :=
  ⟨h.size, h.defers, h.keep, h.hp.upd hi hf (.refl _ _) rfl ho, h.env, h.facts⟩
theorem SatA.lay {i : Nat} {v : Value} {e : ETy} {xs : List (List AV)} (h : SatA E A ⟨n, env, own, F, D⟩ a w) (hi : own[i]? = some (.arr v e xs)) :
    (∃ a0, v = .slice a0 0 0 ∧ xs = []) ∨ ∃ b cap sp, v = sv b 0 xs.length (cap + 1) ∧ xs.length ≤ cap + 1 ∧ (∀ x ∈ xs, x.length = e.sz) ∧ xs.flatten.length + List.length sp = (cap + 1) * e.sz ∧
      SatA E A ⟨n, env, own.set i (.box b (xs.flatten ++ sp.map AV.c)), F, D⟩ a w := by
  rcases h.arr i hi with h0 | ⟨b, cap, us, t, hv, h1, h2, h3, h4, h5⟩
  · exact .inl h0
  have hfl := flatten_length xs h4
  have hle : xs.flatten.length ≤ us.size := by rw [hfl, h3.size]; exact Nat.mul_le_mul_right _ h2
  have h3s := h3.size
  have hul : us.toList.length = us.size := by simp
  refine .inr ⟨b, cap, us.toList.drop xs.flatten.length, hv, h2, h4, by rw [List.length_drop]; omega, h.swap hi (by rw [hv]; rfl) ?_⟩
  refine ⟨us, t, h1, by rw [List.length_append, List.length_map, List.length_drop]; omega, fun k y hk => ?_⟩
  rw [Nat.zero_add]
  by_cases hlt : k < xs.flatten.length
  · rw [List.getElem?_append_left hlt] at hk
    have := h5 k y hk
    rwa [Nat.zero_add] at this
  · rw [List.getElem?_append_right (by omega), List.getElem?_map, List.getElem?_drop] at hk
    rw [show xs.flatten.length + (k - xs.flatten.length) = k by omega] at hk
    cases hu : us[k]? with
    | none => rw [Array.getElem?_toList, hu] at hk; cases hk
    | some u =>
      rw [Array.getElem?_toList, hu] at hk
      simp only [Option.map_some, Option.some.injEq] at hk
      subst hk
      exact ⟨u, rfl, h3.one k u hu, .c u⟩
theorem J.lay (i : Nat) {v : Value} {e : ETy} {xs : List (List AV)} (hi : own[i]? = some (.arr v e xs)) (h0 : ∀ a0, v = .slice a0 0 0 → xs = [] → J P E c ⟨n, env, own, F, D⟩ Q)
    (h1 : ∀ b cap sp, v = sv b 0 xs.length (cap + 1) → xs.length ≤ cap + 1 → (∀ x ∈ xs, x.length = e.sz) → xs.flatten.length + List.length sp = (cap + 1) * e.sz → J P E c ⟨n, env, own.set i (.box b (xs.flatten ++ sp.map AV.c)), F, D⟩ Q) : J P E c ⟨n, env, own, F, D⟩ Q := fun a w ⟨A, hA⟩ => by
  rcases hA.lay hi with ⟨a0, hv, hx⟩ | ⟨b, cap, sp, hv, g1, g2, g3, g4⟩
  · exact h0 a0 hv hx a w ⟨A, hA⟩
  · exact h1 b cap sp hv g1 g2 g3 a w ⟨A, g4⟩
theorem SatA.fold {i : Nat} {b cap : Nat} {ys : List AV} {v : Value} {e : ETy} {xs : List (List AV)} (h : SatA E A ⟨n, env, own, F, D⟩ a w) (hi : own[i]? = some (.box b ys)) (hv : v = sv b 0 xs.length (cap + 1)) (hle : xs.length ≤ cap + 1)
    (hs : ∀ x ∈ xs, x.length = e.sz) (hl : ys.length = (cap + 1) * e.sz) (hp : ys.take xs.flatten.length = xs.flatten) : SatA E A ⟨n, env, own.set i (.arr v e xs), F, D⟩ a w := by
  obtain ⟨us, t, h1, h2, h3⟩ := (h.hp.own _ (List.mem_of_getElem? hi) : (Own.box b ys).ok w A)
  refine h.swap hi (by rw [hv]; rfl) (.inr ⟨b, cap, us, t, hv, h1, hle, ⟨by rw [h2, hl], fun k u hu => ?_⟩, hs, fun k y hk => ?_⟩)
  · have hk : k < ys.length := by rw [← h2]; exact (Array.getElem?_eq_some_iff.1 hu).1
    obtain ⟨u', g1, g2, _⟩ := h3 k _ (List.getElem?_eq_getElem hk)
    rw [Nat.zero_add, hu] at g1
    cases g1; exact g2
  · refine h3 k y ?_
    have hk1 := (List.getElem?_eq_some_iff.1 hk).1
    rw [← hp] at hk
    rw [List.getElem?_take] at hk
    rwa [if_pos hk1] at hk
theorem J.fold (i : Nat) {b cap : Nat} {ys : List AV} {v : Value} {e : ETy} (xs : List (List AV)) (hi : own[i]? = some (.box b ys)) (hv : v = sv b 0 xs.length (cap + 1)) (hle : xs.length ≤ cap + 1)
    (hs : ∀ x ∈ xs, x.length = e.sz) (hl : ys.length = (cap + 1) * e.sz) (hp : ys.take xs.flatten.length = xs.flatten) {own' : List Own} (ho : own.set i (.arr v e xs) = own') (h : J P E c ⟨n, env, own', F, D⟩ Q) : J P E c ⟨n, env, own, F, D⟩ Q := fun a w ⟨A, hA⟩ => by
  subst ho
  exact h a w ⟨A, hA.fold hi hv hle hs hl hp⟩
/-! ### slices of a block, as constants -/
theorem cut_val {b off cap : Nat} {l : Nat} {off' : Nat} (ho : (if cap = l then off else off + l * m) = off') (l' c' : Nat) : (Value.slice (if cap = l then some ⟨b, off, none⟩ else (some ⟨b, off, none⟩ : Option Addr).map (·.add (l * m))) l' c') = sv b off' l' c' := by
  subst ho
  split
  · rfl
  · rw [Option.map_some, add_at]
theorem QW.cutL {b off len cap l off' : Nat} (hU : P.underlying t = some (.slice et)) (hT : tySz P et = some (g, m, B)) (hx : Ev E st x (.c (sv b off len cap))) (hlo : Ev E st lo (.c (.int k i))) (hi : i = (l : Int)) (hl : l ≤ len) (hc : len ≤ cap) (ho : (if cap = l then off else off + l * m) = off') :
    QW P E st ⟨dd, .slice t x (some lo) none none, ty, pos, af, gd⟩ (.c (sv b off' (len - l) (cap - l))) := .pure fun A a w hs => by
  refine ⟨sv b off' (len - l) (cap - l), ?_, .c _⟩
  have := run_slice (P := P) (w := w) (ad := some ⟨b, off, none⟩) (k := k) (k' := .i64) hU hT (some l) none (len := len) (cap := cap) (by simpa using hl) (by simpa using hc)
  simp only [bnd, Option.getD_some, Option.getD_none] at this
  rw [cut_val ho] at this
  simp only [execOp, hx.eq hs, Option.map_some, Option.map_none, EvBnd hlo hi hs, Sem.run_bind, this, Result.andThen_ok, Sem.run_pure]
theorem QW.cutH {b off len cap h : Nat} (hU : P.underlying t = some (.slice et)) (hT : tySz P et = some (g, m, B)) (hx : Ev E st x (.c (sv b off len cap))) (hhi : Ev E st hi (.c (.int k j))) (hj : j = (h : Int)) (hc : h ≤ cap) :
    QW P E st ⟨dd, .slice t x none (some hi) none, ty, pos, af, gd⟩ (.c (sv b off h cap)) := .pure fun A a w hs => by
  refine ⟨sv b off h cap, ?_, .c _⟩
  have := run_slice (P := P) (w := w) (ad := some ⟨b, off, none⟩) (k := .i64) (k' := k) hU hT none (some h) (len := len) (cap := cap) (by simp) (by simpa using hc)
  simp only [bnd, Option.getD_some, Option.getD_none, Nat.sub_zero] at this
  rw [cut_val (l := 0) (off' := off) (by split <;> simp)] at this
  simp only [execOp, hx.eq hs, Option.map_some, Option.map_none, EvBnd hhi hj hs, Sem.run_bind, this, Result.andThen_ok, Sem.run_pure]
theorem QW.cap_c {ad : Option Addr} {l cap : Nat} (hU : P.underlying t = some (.slice et)) (h : Ev E st x (.c (.slice ad l cap))) : QW P E st ⟨dd, .call ⟨.builtin .cap, #[x], #[t]⟩, ty, pos, af, gd⟩ (.c (.int .i64 (cap : Int))) := .pure fun A a w hs =>
  ⟨_, by simp [execOp, resolve, invoke, builtin, Builtin.cap_, run_underlying _ hU, h.eq hs, goInt], .c _⟩
/-! ### what is copied -/
/-- The first m of a slice of l elements: their cells. -/
def SrcN (P : Program) (w : World) (A : Foot) (sz m l : Nat) (v : Value) (zs : List AV) : Prop :=
  ∃ ad cp cs, v = .slice ad l cp ∧ (Builtin.firstCells sz m v).run P w = .ok (List.toArray cs) w ∧ Cells w A cs.toArray 0 zs ∧ cs.length = zs.length ∧ zs.length = m * sz
theorem cells_part {us : Array Value} {zs : List AV} {b off o2 mm : Nat} {tt : TypeId} {fz : Nat × Nat} (h : Cells w A us off zs) (hb : w.heap[b]? = some (.cells us tt fz)) (hle : o2 + mm ≤ zs.length) :
    ∃ cs : List Value, cs.length = mm ∧ (∀ j u, cs[j]? = some u → w.cell? ((⟨b, off + o2, none⟩ : Addr).add j) = some u) ∧ Cells w A cs.toArray 0 ((zs.drop o2).take mm) := by
  have hg : ∀ q, q < mm → ∃ u, us[off + (o2 + q)]? = some u ∧ u.oneCell' = true ∧ ∀ y, zs[o2 + q]? = some y → Rd w A u y := fun q hq => by
    obtain ⟨u, h1, h0, h2⟩ := h (o2 + q) _ (List.getElem?_eq_getElem (by omega))
    exact ⟨u, h1, h0, fun y hy => by rw [List.getElem?_eq_getElem (by omega)] at hy; cases hy; exact h2⟩
  have hu : ∀ q, q < mm → us[off + (o2 + q)]? = some (us.getD (off + (o2 + q)) undef) := fun q hq => by
    obtain ⟨u, h1, _⟩ := hg q hq
    simp [Array.getD_eq_getD_getElem?, h1]
  refine ⟨(List.range mm).map fun q => us.getD (off + (o2 + q)) undef, by simp, fun q u hq => ?_, fun q y hq => ?_⟩
  · rw [List.getElem?_map] at hq
    by_cases hlt : q < mm
    · rw [List.getElem?_range hlt] at hq; cases hq
      rw [add_at, cell_at hb, Nat.add_assoc]; exact hu q hlt
    · rw [List.getElem?_eq_none (by simpa using hlt)] at hq; cases hq
  · rw [List.getElem?_take] at hq
    split at hq
    · rename_i hlt
      rw [List.getElem?_drop] at hq
      obtain ⟨u, h1, h0, h2⟩ := hg q hlt
      have : us.getD (off + (o2 + q)) undef = u := by simp [Array.getD_eq_getD_getElem?, h1]
      exact ⟨u, by simp [hlt, h1], h0, h2 y hq⟩
    · cases hq
theorem SrcN.box {sz mm l cp b2 o2 i2 : Nat} {zs : List AV} {st : St} (h : Ev E st x (.c (sv b2 o2 l cp))) (ho : st.own[i2]? = some (.box b2 zs)) (hm : mm ≤ l) (hle : o2 + mm * sz ≤ zs.length) : ∀ A a w, SatA E A st a w → SrcN P w A sz mm l (a.eval x) ((zs.drop o2).take (mm * sz)) := fun A a w hs => by
  obtain ⟨us, tt, h1, h2, h3⟩ := (hs.hp.own _ (List.mem_of_getElem? ho) : (Own.box b2 zs).ok w A)
  obtain ⟨cs, g1, g2, g3⟩ := cells_part (off := 0) h3 h1 hle
  rw [Nat.zero_add] at g2
  refine ⟨_, _, cs, h.eq hs, ?_, g3, by rw [g1]; simp; omega, by simp; omega⟩
  rw [h.eq hs]
  exact run_firstCells_some w sz mm ⟨b2, o2, none⟩ l cp cs g1 g2
theorem SrcN.sl {sz mm : Nat} {fr clip : Bool} {e : ETy} {xs : List (List AV)} {st : St} (h : Ev E st x (.sl fr clip e xs)) (hsz : e.sz = sz) (hm : mm ≤ xs.length) : ∀ A a w, SatA E A st a w → SrcN P w A sz mm xs.length (a.eval x) (xs.flatten.take (mm * sz)) := fun A a w hs => by
  obtain ⟨ad, cap, hv, _, _, hc⟩ := (h A a w hs).of_sl
  rcases hc with rfl | ⟨b, off, cs, t', fz, rfl, hAb, hb, hxl, _, hc⟩
  · obtain rfl : mm = 0 := by simpa using hm
    refine ⟨_, _, [], hv, ?_, fun k y hk => by simp at hk, by simp, by simp⟩
    rw [hv]
    cases ad with
    | none => exact run_firstCells_none w sz 0 _ _
    | some a' => exact run_firstCells_some w sz 0 a' _ _ [] (by simp) (by intro _ _ h'; simp at h')
  · have hfl := flatten_length xs hxl
    subst hsz
    have hle : 0 + mm * e.sz ≤ xs.flatten.length := by rw [hfl, Nat.zero_add]; exact Nat.mul_le_mul_right _ hm
    obtain ⟨vs, g1, g2, g3⟩ := cells_part (o2 := 0) hc hb hle
    rw [List.drop_zero] at g3
    refine ⟨_, _, vs, hv, ?_, g3, by rw [g1, List.length_take]; omega, by rw [List.length_take]; omega⟩
    rw [hv]
    exact run_firstCells_some w e.sz mm ⟨b, off, none⟩ _ _ vs g1 (by simpa using g2)
theorem SrcN.one {sz : Nat} {fr clip : Bool} {e : ETy} {ys : List AV} {st : St} (h : Ev E st x (.sl fr clip e [ys])) (hsz : e.sz = sz) (hy : ys.length = sz) : ∀ A a w, SatA E A st a w → SrcN P w A sz 1 1 (a.eval x) ys := fun A a w hs => by
  have := SrcN.sl (P := P) (mm := 1) h hsz (Nat.le_refl 1) A a w hs
  have h2 : ([ys] : List (List AV)).flatten.take (1 * sz) = ys := by
    rw [Nat.one_mul, show ([ys] : List (List AV)).flatten = ys by simp]
    exact List.take_of_length_le (Nat.le_of_eq hy)
  rwa [h2] at this
theorem SrcN.boxE {sz mm l cp b2 o2 i2 q : Nat} {zs : List AV} {st : St} (h : Ev E st x (.c (sv b2 o2 l cp))) (ho : st.own[i2]? = some (.box b2 zs)) (hq : mm * sz = q) (hm : mm ≤ l) (hle : o2 + q ≤ zs.length) : ∀ A a w, SatA E A st a w → SrcN P w A sz mm l (a.eval x) ((zs.drop o2).take q) := by
  subst hq
  exact SrcN.box h ho hm hle
/-- Cells laid into an own block. -/
theorem SatA.lays {i b off : Nat} {ys zs : List AV} {cs : List Value} (hA : SatA E A ⟨n, env, own, F, D⟩ a w) (ho : own[i]? = some (.box b ys)) (hc : Cells w A cs.toArray 0 zs) (hl : cs.length = zs.length) (hle : off + zs.length ≤ ys.length) :
    ∃ w1, (storeCells ⟨b, off, none⟩ cs 0).run P w = .ok () w1 ∧ SatA E A ⟨n, env, own.set i (.box b (splice ys off zs)), F, D⟩ a w1 := by
  have hmem := List.mem_of_getElem? ho
  obtain ⟨us, tt, h1, h2, h3⟩ := (hA.hp.own _ hmem : (Own.box b ys).ok w A)
  obtain ⟨w1, us1, hr1, hk1, hz1, hb1, hs1, hu1⟩ := run_storeCells (P := P) (off := off) cs 0 us w h1 (by omega) (List.all_eq_true.2 (hc.ones hl))
  refine ⟨w1, hr1, ?_⟩
  have hfp : ∀ fr q, A fr q → q < w.heap.size → w1.heap[q]? = w.heap[q]? := fun fr q hq hlt => hk1.block q hlt fun hm' => by
    simp only [List.mem_singleton] at hm'
    subst hm'
    exact (hA.hp.fp q (fps_mem hmem (by simp [Own.fp]))).2.2 fr hq
  refine hA.step (hk1.mono fun q hq => fps_mem hmem (by simpa [Own.fp] using hq)) (fun _ _ h => h) (hA.hp.upd (o' := .box b (splice ys off zs)) ho (by simp [Own.fp]) (by simpa [Own.fp] using hk1) hz1 ⟨us1, tt, hb1, by rw [hs1, h2, splice_length hle], ?_⟩)
  exact (h3.spliced hc hl hle (by simpa using hu1)).keep hfp
/-- copy, into an own block. -/
theorem JL.copyN (i : Nat) {b o1 l1 c1 l2 mm sz : Nat} {ys zs : List AV} (hU : P.underlying t = some (.slice et)) (hT : tySz P et = some (g, sz, B)) (hs : Ev E ⟨n, env, own, F, D⟩ s (.c (sv b o1 l1 c1))) (ho : own[i]? = some (.box b ys))
    (hx : ∀ A a w, SatA E A ⟨n, env, own, F, D⟩ a w → SrcN P w A sz mm l2 (a.eval x) zs) (hm : Nat.min l2 l1 = mm) (hle : o1 + zs.length ≤ ys.length) (hd : Nat.blt d n = true)
    (h : JL P E ops rest ⟨n, (d, .c (.int .i64 (mm : Int))) :: env, own.set i (.box b (splice ys o1 zs)), F, D⟩ Q) :
    JL P E ops (⟨some d, .call ⟨.builtin .copy, #[s, x], #[t, tx]⟩, ty, pos, af, none⟩ :: rest) ⟨n, env, own, F, D⟩ Q := fun a w ⟨A, hA⟩ => by
  refine wpListIn_plain rfl fun K hK => ?_
  refine wpR (by intro c h; cases h) ?_
  unfold Oper.wp
  obtain ⟨ad, cp, cs, hv, hf, hc, hl, _⟩ := hx A a w hA
  obtain ⟨w1, hr1, hS⟩ := hA.lays (P := P) ho hc hl hle
  have hr : (Builtin.copy_ #[t, tx] ty #[sv b o1 l1 c1, a.eval x]).run P w = .ok (.int .i64 (mm : Int)) w1 := by
    rw [hv] at hf ⊢
    simp [Builtin.copy_, run_underlying _ hU, Builtin.lenOf, hm, run_sizeOf hT, hf, hr1, goInt]
  have he : (execOp a.eval ⟨some d, .call ⟨.builtin .copy, #[s, x], #[t, tx]⟩, ty, pos, af, none⟩).run P w = .ok (.value (.int .i64 (mm : Int))) w1 := by
    simp [execOp, resolve, invoke, builtin, hs.eq hA, hr, Result.andThen]
  rw [he, Oper.upon_value]
  exact hK _ _ (h _ _ ⟨A, hS.put (blt_lt hd) (.c _)⟩)
/-- append of room that is made, where there is none: a new block; what lies behind the old elements is not told. -/
theorem JL.appMake (i : Nat) {b o1 l1 c1 q : Nat} {e : ETy} {ys : List AV} {kn kq : IntKind} (hU : P.underlying t = some (.slice et)) (hN : P.underlying tx = some (.int kn)) (hE : elemB P et e = true) (h0 : Nat.blt 0 e.sz = true) (hs : Ev E ⟨n, env, own, F, D⟩ s (.c (sv b o1 l1 c1))) (ho : own[i]? = some (.box b ys))
    (hx : Ev E ⟨n, env, own, F, D⟩ x (.c (.int kq (q : Int)))) (hq : 0 < q) (hg : c1 < l1 + q) (hle : o1 + l1 * e.sz ≤ ys.length) (hreach : (l1 + q) * e.bytes ≤ reach) (hr63 : l1 + q ≤ reach) (hd : Nat.blt d n = true)
    (h : ∀ b' cap tl, l1 + q ≤ cap + 1 → ((ys.drop o1).take (l1 * e.sz)).length = l1 * e.sz → l1 * e.sz + List.length tl = (cap + 1) * e.sz → JL P E ops rest ⟨n, (d, .c (sv b' 0 (l1 + q) (cap + 1))) :: env, .box b' ((ys.drop o1).take (l1 * e.sz) ++ tl) :: own, F, D⟩ Q) :
    JL P E ops (⟨some d, .call ⟨.builtin .append, #[s, x], #[t, tx]⟩, ty, pos, af, none⟩ :: rest) ⟨n, env, own, F, D⟩ Q := fun a w ⟨A, hA⟩ => by
  refine wpListIn_plain rfl fun K hK => ?_
  refine wpR (by intro c h; cases h) ?_
  unfold Oper.wp
  obtain ⟨ti, tz, hi, hsz, hby, hz, hzs, hz1⟩ := elemB_get hE
  have hA' := hA.draw
  obtain ⟨us, tt, g1, g2, g3⟩ := (hA'.hp.own _ (List.mem_of_getElem? ho) : (Own.box b ys).ok _ A)
  obtain ⟨cs, k1, k2, k3⟩ := cells_part (off := 0) g3 g1 hle
  rw [Nat.zero_add] at k2
  have hold : (Builtin.firstCells ti.size l1 (sv b o1 l1 c1)).run P w.drew = .ok cs.toArray w.drew := run_firstCells_some w.drew ti.size l1 ⟨b, o1, none⟩ l1 c1 cs (by rw [hsz]; exact k1) k2
  have hp := blt_lt h0
  unfold reach at hr63 hreach
  have hqb : q * ti.bytes ≤ (l1 + q) * e.bytes := by rw [hby]; exact Nat.mul_le_mul_right _ (by omega)
  have hr := Go.Lib.run_append_grow_zeros (P := P) w t tx ty et ti tz kq kn hU hN hi hz (some ⟨b, o1, none⟩) l1 c1 cs hold q hq (by omega) hg (by omega) (by omega) (growslice_fits hg (by rw [hby]; omega))
  have hge := grownCap_ge w (l1 + q) c1 et
  rw [run_builtin_append (hs.eq hA) rfl (by rw [hx.eq hA]; exact hr), Oper.upon_value, alloc_eq]
  obtain ⟨cap, hcap⟩ : ∃ cap, grownCap w (l1 + q) c1 et = cap + 1 := ⟨grownCap w (l1 + q) c1 et - 1, by omega⟩
  generalize hrow : (cs.toArray ++ Builtin.zeroCells tz.cells q ++ Builtin.zeroCells tz.cells (grownCap w (l1 + q) c1 et - (l1 + q)) : Array Value) = row at *
  have hz0 : ∀ u ∈ Builtin.zeroCells tz.cells q ++ Builtin.zeroCells tz.cells (grownCap w (l1 + q) c1 et - (l1 + q)), u.oneCell' = true := fun u hu => by
    rcases Array.mem_append.1 hu with hu | hu <;> exact zeroCells_one hz1 u hu
  let tl : List AV := (Builtin.zeroCells tz.cells q ++ Builtin.zeroCells tz.cells (grownCap w (l1 + q) c1 et - (l1 + q))).toList.map AV.c
  have hhl : ((ys.drop o1).take (l1 * e.sz)).length = l1 * e.sz := by rw [List.length_take, List.length_drop]; omega
  have htl : tl.length = (q + (cap + 1 - (l1 + q))) * e.sz := by simp [tl, size_zeroCells, hzs, hcap, Nat.add_mul]
  have hrl : row = cs.toArray ++ (Builtin.zeroCells tz.cells q ++ Builtin.zeroCells tz.cells (grownCap w (l1 + q) c1 et - (l1 + q))) := by rw [← hrow, Array.append_assoc]
  have hrc : Cells (World.drawnBy w) A row 0 ((ys.drop o1).take (l1 * e.sz) ++ tl) := fun r y hk => by
    rw [Nat.zero_add]
    by_cases hlt : r < ((ys.drop o1).take (l1 * e.sz)).length
    · rw [List.getElem?_append_left hlt] at hk
      obtain ⟨u, m1, m2, m3⟩ := k3 r y hk
      rw [Nat.zero_add] at m1
      refine ⟨u, ?_, m2, m3⟩
      rw [hrl, Array.getElem?_append_left (by simp; omega)]
      exact m1
    · rw [List.getElem?_append_right (by omega)] at hk
      simp only [tl, List.getElem?_map, Option.map_eq_some_iff] at hk
      obtain ⟨u, m1, rfl⟩ := hk
      rw [hhl] at m1
      refine ⟨u, ?_, hz0 u (by simpa using List.mem_of_getElem? m1), .c u⟩
      rw [hrl, Array.getElem?_append_right (by simp; omega)]
      simp only [List.size_toArray, k1]
      rw [← Array.getElem?_toList]
      exact m1
  have hrs : row.size = ((ys.drop o1).take (l1 * e.sz) ++ tl).length := by
    rw [hrl, List.length_append, hhl, Array.size_append]
    simp [tl, k1]
  have hN2 := h w.heap.size cap tl (by omega) hhl (by rw [htl, ← Nat.add_mul]; congr 1; omega)
  rw [hcap]
  refine hK _ _ (hN2 _ _ ⟨A, SatA.put ?_ (blt_lt hd) (.c _)⟩)
  exact hA'.step (.push _ _ _) (fun _ _ h => h) (hA'.hp.push_box (us := row) (t := et) hA'.keep.size hrs hrc)
/-- slices.overlaps: a slice that is read, and a part of an own block. -/
theorem run_apart {tS tR : TypeId} {va b off l cb lA cA oA : Nat} {csA us : Array Value} {tA tB : TypeId} {fz : Nat × Nat} (hU : P.underlying tS = some (.slice et)) (hT : tySz P et = some (g, m, B)) (ha : w.heap[va]? = some (.cells csA tA fz)) (hb : w.heap[b]? = some (.cells us tB (0, 0))) (hne : va ≠ b) (hkA : csA.size ≠ 0) (hkB : us.size ≠ 0) :
    (Extern.SlicesOverlaps.overlaps #[tS, tS] #[tR] #[sv va oA lA cA, sv b off l cb]).run P w = .ok (.bool false) w := by
  have hsa : w.shape? va = some (tA, csA.size) := by simp [World.shape?, ha]
  have hsb : w.shape? b = some (tB, us.size) := by simp [World.shape?, hb]
  have hfb : ∀ q, w.frozen? ⟨b, q, none⟩ = false := fun q => by simp [World.frozen?, hb]
  have hnb : (va != b) = true := by simpa using hne
  have hnb' : (va == b) = false := by simpa using hne
  obtain ⟨nA, hnA⟩ : ∃ nA, csA.size = nA + 1 := ⟨csA.size - 1, by omega⟩
  rw [hnA] at hsa
  obtain ⟨nB, hnB⟩ : ∃ nB, us.size = nB + 1 := ⟨us.size - 1, by omega⟩
  rw [hnB] at hsb
  change Sem.run P (α := Value) (do
    let some t := (#[tS, tS] : Array TypeId)[0]? | stuck "slices.overlaps: no parameter types"
    let .slice elem ← underlying t | stuck "slices.overlaps: slice type expected"
    let size ← sizeOf elem
    match (some ⟨va, oA, none⟩ : Option Addr), (some ⟨b, off, none⟩ : Option Addr) with
    | some a, some b =>
      if lA = 0 ∨ l = 0 ∨ size = 0 then pure (Value.bool false)
      else if a.block != b.block && (← frozen a) && (← frozen b) then unsupported .addressObserved
      else do
        if a.block != b.block then do
          noView a; noView b
          if ← mayBeOne a b then return Value.bool ((← choose (.extern "sameAddr.stringBytes" 2)) == 1)
        pure (Value.bool (a.block == b.block && a.off < b.off + l * size && b.off < a.off + lA * size))
    | _, _ => pure (Value.bool false)) w = _
  by_cases h0 : lA = 0 ∨ l = 0 ∨ m = 0
  · simp [run_underlying _ hU, run_sizeOf hT, h0]
  · cases hf1 : w.frozen? ⟨va, oA, none⟩ <;> cases hf2 : w.frozen? ⟨va, nA + 1, none⟩ <;>
      simp [run_underlying _ hU, run_sizeOf hT, h0, hnb, hnb', frozen, noView, viewAt, mayBeOne, stringish, shape, Sem.run, hsa, hsb, hf1, hf2, hfb]
theorem QW.apart (i : Nat) {f : FuncId} {tS tR : TypeId} {tys : Array TypeId} {b off l cb : Nat} {ys : List AV} {fr clip : Bool} {e : ETy} {xs : List (List AV)} (hU : P.underlying tS = some (.slice et)) (hT : tySz P et = some (g, m, B))
    (hf : ∀ u v w, (callFunc f #[u, v]).run P w = ((Extern.SlicesOverlaps.overlaps #[tS, tS] #[tR] #[u, v]).run P w).andThen fun v w' => .ok (.value v) w')
    (hx : Ev E ⟨n, env, own, F, D⟩ x (.sl fr clip e xs)) (hy : Ev E ⟨n, env, own, F, D⟩ y (.c (sv b off l cb))) (ho : own[i]? = some (.box b ys)) (hn : xs.flatten ≠ []) (hn2 : ys ≠ []) :
    QW P E ⟨n, env, own, F, D⟩ ⟨dd, .call ⟨.value (.func f), #[x, y], tys⟩, ty, pos, af, gd⟩ (.c (.bool false)) := .pure fun A a w hs => by
  refine ⟨.bool false, ?_, .c _⟩
  obtain ⟨ad, cap, hv, _, _, hc⟩ := (hx A a w hs).of_sl
  obtain ⟨us, tt, h1, h2, h3⟩ := (hs.hp.own _ (List.mem_of_getElem? ho) : (Own.box b ys).ok w A)
  rcases hc with rfl | ⟨va, oA, csA, tA, fz, rfl, hAb, hb, hxl, _, hc⟩
  · exact absurd rfl hn
  have hne : va ≠ b := fun he => by
    subst he
    exact (hs.hp.fp va (fps_mem (List.mem_of_getElem? ho) (by simp [Own.fp]))).2.2 fr hAb
  have hkA : csA.size ≠ 0 := fun h0 => by
    obtain ⟨y0, hy0⟩ : ∃ y0, xs.flatten[0]? = some y0 := by
      cases hxf : xs.flatten with
      | nil => exact absurd hxf hn
      | cons a0 r => exact ⟨a0, rfl⟩
    obtain ⟨u, m1, _⟩ := hc 0 y0 hy0
    have := (Array.getElem?_eq_some_iff.1 m1).1
    omega
  have hkB : us.size ≠ 0 := by rw [h2]; exact fun h0 => hn2 (List.length_eq_zero_iff.1 h0)
  have hr := run_apart (P := P) (tR := tR) (oA := oA) (lA := xs.length) (cA := cap) (off := off) (l := l) (cb := cb) hU hT hb h1 hne hkA hkB
  have := hf (sv va oA xs.length cap) (sv b off l cb) w
  rw [hr] at this
  simp only [execOp, resolve, Act.eval, Deferred.ofValue, Sem.run_bind, Sem.run_pure, Result.andThen_ok, invoke]
  simpa [hv, hy.eq hs, Result.andThen] using this
/-- A part of an own array that is not used further. -/
theorem JL.cutAny (i : Nat) {v : Value} {e : ETy} {xs : List (List AV)} {l : Nat} {j : Int} (hU : P.underlying t = some (.slice et)) (hT : tySz P et = some (g, m, B)) (hx : Ev E ⟨n, env, own, F, D⟩ x (.c v)) (ho : own[i]? = some (.arr v e xs)) (hlo : Ev E ⟨n, env, own, F, D⟩ lo (.c (.int k j))) (hj : j = (l : Int)) (hl : l ≤ xs.length) (hd : Nat.blt d n = true)
    (h : ∀ u, JL P E ops rest ⟨n, (d, .c u) :: env, own, F, D⟩ Q) : JL P E ops (⟨some d, .slice t x (some lo) none none, ty, pos, af, none⟩ :: rest) ⟨n, env, own, F, D⟩ Q := fun a w ⟨A, hA⟩ => by
  refine wpListIn_plain rfl fun K hK => ?_
  refine wpR (by intro c h; cases h) ?_
  unfold Oper.wp
  have hv : ∃ ad cap, v = .slice ad xs.length cap ∧ xs.length ≤ cap := by
    rcases hA.arr i ho with ⟨a0, hv, hx0⟩ | ⟨b, cap, us, t', hv, _, hle, _⟩
    · subst hx0; exact ⟨a0, 0, hv, Nat.le_refl _⟩
    · exact ⟨_, _, hv, hle⟩
  obtain ⟨ad, cap, rfl, hle⟩ := hv
  have := run_slice (P := P) (w := w) (ad := ad) (k := k) (k' := .i64) hU hT (some l) none (len := xs.length) (cap := cap) (by simpa using hl) (by simpa using hle)
  simp only [bnd, Option.getD_some, Option.getD_none] at this
  have he : (execOp a.eval ⟨some d, .slice t x (some lo) none none, ty, pos, af, none⟩).run P w = .ok (.value (.slice (if cap = l then ad else ad.map (·.add (l * m))) (xs.length - l) (cap - l))) w := by
    simp only [execOp, hx.eq hA, Option.map_some, Option.map_none, EvBnd hlo hj hA, Sem.run_bind, this, Result.andThen_ok, Sem.run_pure]
  rw [he, Oper.upon_value]
  exact hK _ _ (h _ _ _ ⟨A, hA.put (blt_lt hd) (.c _)⟩)
end
/-! ### plain: an element laid in, or taken out -/
theorem splice_take {α : Type} {base X ys : List α} {a m : Nat} (h : a ≤ X.length) (hm : ys.length = m) (L : List α) (hL : X.length + m ≤ L.length)
    (hg : ∀ k, k < X.length + m → L[k]? = if k < a then X[k]? else if k < a + m then ys[k - a]? else X[k - m]?) : L.take (X.length + m) = X.take a ++ ys ++ X.drop a := by
  apply List.ext_getElem?
  intro k
  rw [List.getElem?_take]
  by_cases hk : k < X.length + m
  · rw [if_pos hk, hg k hk]
    by_cases h1 : k < a
    · rw [if_pos h1, List.append_assoc, List.getElem?_append_left (by simp; omega), List.getElem?_take, if_pos h1]
    · rw [if_neg h1]
      by_cases h2 : k < a + m
      · rw [if_pos h2, List.getElem?_append_left (by simp; omega), List.getElem?_append_right (by simp; omega), List.length_take, Nat.min_eq_left h]
      · rw [if_neg h2, List.getElem?_append_right (by simp; omega), List.getElem?_drop]
        congr 1
        simp
        omega
  · rw [if_neg hk, List.getElem?_eq_none]
    simp; omega
/-- What stood from a on is moved by m; then ys is laid there. -/
theorem ins_shift {α : Type} {X sp ys : List α} {a m : Nat} (h : a ≤ X.length) (hm : ys.length = m) (hl : X.length + m ≤ (X ++ sp).length) :
    (splice (splice (X ++ sp) (a + m) (((X ++ sp).drop a).take (X.length - a))) a ys).take (X.length + m) = X.take a ++ ys ++ X.drop a := by
  have hl1 : (((X ++ sp).drop a).take (X.length - a)).length = X.length - a := by simp; omega
  have hf1 : a + m + (((X ++ sp).drop a).take (X.length - a)).length ≤ (X ++ sp).length := by rw [hl1]; omega
  have hf2 : a + ys.length ≤ (splice (X ++ sp) (a + m) (((X ++ sp).drop a).take (X.length - a))).length := by rw [splice_length hf1]; omega
  refine splice_take (base := X) h hm _ (by rw [splice_length hf2, splice_length hf1]; omega) fun k hk => ?_
  rw [splice_get hf2, splice_get hf1, hl1, hm]
  by_cases h1 : k < a
  · rw [if_neg (by omega), if_neg (by omega), if_pos h1, List.getElem?_append_left (by omega)]
  · rw [if_neg h1]
    by_cases h2 : k < a + m
    · rw [if_pos ⟨by omega, h2⟩, if_pos h2]
    · rw [if_neg (by omega), if_neg h2, if_pos ⟨by omega, by omega⟩, List.getElem?_take, if_pos (by omega), List.getElem?_drop, List.getElem?_append_left (by omega)]
      congr 1; omega
/-- The same in a new block. -/
theorem ins_grow {α : Type} {X sp tl ys : List α} {a m : Nat} (h : a ≤ X.length) (hm : ys.length = m) (hl : X.length + m ≤ a + tl.length) :
    (splice (splice (((X ++ sp).drop 0).take a ++ tl) a ys) (a + m) (((X ++ sp).drop a).take (X.length - a))).take (X.length + m) = X.take a ++ ys ++ X.drop a := by
  have hh : (((X ++ sp).drop 0).take a).length = a := by simp; omega
  have hl1 : (((X ++ sp).drop a).take (X.length - a)).length = X.length - a := by simp; omega
  have hbl : (((X ++ sp).drop 0).take a ++ tl).length = a + tl.length := by rw [List.length_append, hh]
  have hf1 : a + ys.length ≤ (((X ++ sp).drop 0).take a ++ tl).length := by rw [hbl]; omega
  have hf2 : a + m + (((X ++ sp).drop a).take (X.length - a)).length ≤ (splice (((X ++ sp).drop 0).take a ++ tl) a ys).length := by rw [splice_length hf1, hl1, hbl]; omega
  refine splice_take (base := X) h hm _ (by rw [splice_length hf2, splice_length hf1, hbl]; omega) fun k hk => ?_
  rw [splice_get hf2, splice_get hf1, hl1, hm]
  by_cases h1 : k < a
  · rw [if_neg (by omega), if_neg (by omega), if_pos h1, List.getElem?_append_left (by omega), List.getElem?_take, if_pos h1, List.drop_zero, List.getElem?_append_left (by omega)]
  · rw [if_neg h1]
    by_cases h2 : k < a + m
    · rw [if_neg (by omega), if_pos ⟨by omega, h2⟩, if_pos h2]
    · rw [if_neg h2, if_pos ⟨by omega, by omega⟩, List.getElem?_take, if_pos (by omega), List.getElem?_drop, List.getElem?_append_left (by omega)]
      congr 1; omega
theorem ins_flat {α : Type} {sz : Nat} {xs : List (List α)} {ys : List α} {i : Nat} (hs : ∀ x ∈ xs, x.length = sz) : (xs.take i ++ [ys] ++ xs.drop i).flatten = xs.flatten.take (i * sz) ++ ys ++ xs.flatten.drop (i * sz) := by
  rw [List.flatten_append, List.flatten_append, flatten_take xs hs, flatten_drop xs hs]
  simp
theorem ins_flen {α : Type} {sz : Nat} {xs : List (List α)} {ys : List α} {i : Nat} (hs : ∀ x ∈ xs, x.length = sz) (hy : ys.length = sz) : (xs.take i ++ [ys] ++ xs.drop i).flatten.length = xs.flatten.length + sz := by
  rw [ins_flat hs, List.length_append, List.length_append, List.length_take, List.length_drop, hy]
  omega
theorem ins_len {α : Type} {xs : List (List α)} {ys : List α} {i : Nat} (hi : i ≤ xs.length) : (xs.take i ++ [ys] ++ xs.drop i).length = xs.length + 1 := by simp; omega
theorem ins_sz {α : Type} {sz : Nat} {xs : List (List α)} {ys : List α} {i : Nat} (hs : ∀ x ∈ xs, x.length = sz) (hy : ys.length = sz) : ∀ x ∈ xs.take i ++ [ys] ++ xs.drop i, x.length = sz := by
  intro x hx
  simp only [List.mem_append, List.mem_singleton] at hx
  rcases hx with (hx | rfl) | hx
  · exact hs x (List.mem_of_mem_take hx)
  · exact hy
  · exact hs x (List.mem_of_mem_drop hx)
end Go.Proofs.Ytkiankpmkglhcaa.J

/- A place within an owned value: what the whole is when another value stands there. -/
namespace Go.Proofs.Ytkiankpmkglhcaa.J
open Go Go.RowKit
set_option linter.unusedVariables false
set_option linter.unusedSimpArgs false
theorem Reown.fold {b cap : Nat} {ys : List AV} {v : Value} {e : ETy} {xs : List (List AV)} (hv : v = sv b 0 xs.length (cap + 1)) (hle : xs.length ≤ cap + 1)
    (hs : ∀ x ∈ xs, x.length = e.sz) (hl : ys.length = (cap + 1) * e.sz) (hp : ys.take xs.flatten.length = xs.flatten) : Reown [.box b ys] [.arr v e xs] := by
  subst hv
  refine ⟨fun x => by simp [fps_cons, fps_nil, Own.fp, arrFp, sv], fun w A h => ?_⟩
  simp only [List.forall_mem_cons, List.not_mem_nil, false_implies, implies_true, and_true] at h ⊢
  simp only [Own.ok] at h ⊢
  obtain ⟨us, t, h1, h2, h3⟩ := h
  refine .inr ⟨b, cap, us, t, rfl, h1, hle, ⟨by rw [h2, hl], fun k u hu => ?_⟩, hs, fun k y hk => ?_⟩
  · have hk : k < ys.length := by rw [← h2]; exact (Array.getElem?_eq_some_iff.1 hu).1
    obtain ⟨u', g1, g2, _⟩ := h3 k _ (List.getElem?_eq_getElem hk)
    rw [Nat.zero_add, hu] at g1
    cases g1; exact g2
  · refine h3 k y ?_
    have hk1 := (List.getElem?_eq_some_iff.1 hk).1
    rw [← hp] at hk
    rw [List.getElem?_take] at hk
    rwa [if_pos hk1] at hk
theorem Reown.hd {o : Own} {a l : List Own} (h : Reown [o] a) : Reown (o :: l) (a ++ l) :=
  (Reown.perm (List.perm_append_singleton o l).symm).trans ((Reown.left (c := l) h).trans (Reown.perm List.perm_append_comm))
def Law (b : Nat) (pre post : List AV) (ctx : Own) (b0 : Nat) (plug : V → V) : Prop :=
  ∀ (x : V) (kv iv : Value) (ok oi : Own), x.wf → VTr x kv iv ok oi → ∃ kw iw okw oiw, VTr (plug x) kw iw okw oiw ∧ Reown [.box b (pre ++ x.raw kv iv ++ post), ok, oi, ctx] [.box b0 ((plug x).raw kw iw), okw, oiw]
theorem Law.root (b : Nat) : Law b [] [] (.grp []) b id := fun x kv iv ok oi _ h => ⟨kv, iv, ok, oi, h, by
  rw [List.append_nil, List.nil_append]
  exact Reown.msk [.p, .p, .p] _ rfl⟩
/-- The i-th of a list's items, taken out. -/
theorem kids_at {is : List V} {cs : List (List AV)} {us : List Value} {o : Own} {i : Nat} (hlt : i < is.length) (hl : cs.length = is.length) (h3 : ∀ x ∈ cs, x.length = 5) (hf : cs.flatten = us.map AV.c) (h1 : us.all (·.oneCell') = true) (h : TrL (V.css true is).flatten us o) :
    ∃ kv iv ok oi ob oa u1 u3, cs[i]? = some ((is[i]'hlt).raw kv iv) ∧ VTr (is[i]'hlt) kv iv ok oi ∧ TrL (V.css true (is.take i)).flatten u1 ob ∧ TrL (V.css true (is.drop (i + 1))).flatten u3 oa ∧ (cs.take i).flatten = u1.map AV.c ∧ (cs.drop (i + 1)).flatten = u3.map AV.c ∧
      u1.all (·.oneCell') = true ∧ u3.all (·.oneCell') = true ∧ Reown [o] [ok, oi, ob, oa] := by
  have hsp : (V.css true is).flatten = (V.css true (is.take i)).flatten ++ (V.css true (is.drop i)).flatten := by
    rw [← List.flatten_append, ← V.css_append, List.take_append_drop]
  rw [hsp] at h
  obtain ⟨u1, u2, o1, o2, rfl, g1, g2, g3⟩ := h.split
  rw [List.all_append, Bool.and_eq_true] at h1
  have hlen : (cs.take i).flatten.length = u1.length := by
    rw [← g1.length, flatten_length (sz := 5) _ (fun x hx => h3 x (List.mem_of_mem_take hx)), flatten_length (sz := 5) _ (V.css_sz true _), V.css_length, List.length_take, List.length_take, hl]
  have hf2 : (cs.take i).flatten ++ (cs.drop i).flatten = u1.map AV.c ++ u2.map AV.c := by
    rw [← List.flatten_append, List.take_append_drop, hf, List.map_append]
  obtain ⟨k1, k2⟩ := List.append_inj hf2 (by simpa using hlen)
  obtain ⟨kv, iv, ok, oi, u3, o3, e1, e2, e3, e4, e5, e6⟩ := kids_take hlt hl h3 k2 h1.2 g2
  refine ⟨kv, iv, ok, oi, o1, o3, u1, u3, e1, e2, g1, e5, k1, e3, h1.1, e4, ?_⟩
  exact (Reown.pair g3).trans ((Reown.cons e6).trans (Reown.perm (by
    simpa using (List.perm_append_comm (l₁ := [o1]) (l₂ := [ok, oi])).append_right [o3])))
theorem set_parts {α : Type} {l : List α} {i : Nat} {x : α} (h : i < l.length) : l.set i x = l.take i ++ x :: l.drop (i + 1) := by
  rw [List.set_eq_take_append_cons_drop, if_pos h]
/-- One step further in. -/
theorem Law.into {b b0 b2 cap i : Nat} {pre post : List AV} {ctx ok ob oa : Own} {plug : V → V} {u : V} {kv iv : Value} {cs : List (List AV)} {sp u1 u3 : List Value} (hL : Law b pre post ctx b0 plug) (huw : u.wf) (hk1 : kv.oneCell' = true) (hi1 : iv.oneCell' = true) (hks : Tr (.sl true false eStr (keysAV u.keys)) kv ok)
    (hlt : i < u.items.length) (hcl : cs.length = u.items.length) (h5 : ∀ x ∈ cs, x.length = 5) (hiv : iv = sv b2 0 cs.length (cap + 1)) (hcap : cs.length ≤ cap + 1) (hsz : cs.flatten.length + sp.length = (cap + 1) * 5)
    (t1 : TrL (V.css true (u.items.take i)).flatten u1 ob) (t3 : TrL (V.css true (u.items.drop (i + 1))).flatten u3 oa) (f1 : (cs.take i).flatten = u1.map AV.c) (f3 : (cs.drop (i + 1)).flatten = u3.map AV.c) (a1 : u1.all (·.oneCell') = true) (a3 : u3.all (·.oneCell') = true) :
    Law b2 (cs.take i).flatten ((cs.drop (i + 1)).flatten ++ sp.map AV.c) (.grp [.box b (pre ++ u.raw kv iv ++ post), ok, ob, oa, ctx]) b0 (fun x => plug (u.setAt i x)) := fun x kx ix okx oix hxw hx => by
  have hclt : i < cs.length := by omega
  have hflat : (cs.set i (x.raw kx ix)).flatten = (u1 ++ (x.vals kx ix ++ u3)).map AV.c := by
    rw [set_parts hclt, List.flatten_append, List.flatten_cons, f1, f3, V.raw_eq, List.map_append, List.map_append]
  have hrl : (x.raw kx ix).length = 5 := rfl
  have h5' : ∀ z ∈ cs.set i (x.raw kx ix), z.length = 5 := fun z hz => (List.mem_or_eq_of_mem_set hz).elim (h5 z) fun e => e ▸ rfl
  have hits : u.items.length * 80 ≤ reach := by obtain ⟨k, b, t, ks, is⟩ := u; exact huw.inv.2.2.2.2.1
  have htl : TrL (V.css true (u.items.set i x)).flatten (u1 ++ (x.vals kx ix ++ u3)) (.grp [ob, .grp [.grp [okx, oix], oa]]) := by
    rw [set_parts hlt, V.css_append, List.flatten_append, V.css, List.flatten_cons]
    exact t1.append (hx.trL.append t3 (.refl _)) (.refl _)
  have hIt : Tr (.sl true false eV (V.css true (u.items.set i x))) iv (.grp [.arr iv eV (cs.set i (x.raw kx ix)), .grp [ob, .grp [.grp [okx, oix], oa]]]) :=
    items_tr hflat (by simp [hcl]) h5' (by rw [List.all_append, List.all_append, a1, hx.ones, a3]; rfl) (by simpa using hits) htl
  have hV : VTr (u.setAt i x) kv iv ok (.grp [.arr iv eV (cs.set i (x.raw kx ix)), .grp [ob, .grp [.grp [okx, oix], oa]]]) := ⟨hk1, hi1, hks, hIt⟩
  obtain ⟨kw, iw, okw, oiw, g1, g2⟩ := hL _ _ _ _ _ (V.setAt_wf huw hxw) hV
  refine ⟨kw, iw, okw, oiw, g1, Reown.trans ?_ g2⟩
  have hfold : Reown [.box b2 ((cs.take i).flatten ++ x.raw kx ix ++ ((cs.drop (i + 1)).flatten ++ sp.map AV.c))] [.arr iv eV (cs.set i (x.raw kx ix))] := by
    have he : (cs.take i).flatten ++ x.raw kx ix ++ ((cs.drop (i + 1)).flatten ++ sp.map AV.c) = (cs.set i (x.raw kx ix)).flatten ++ sp.map AV.c := by
      rw [set_parts hclt, List.flatten_append, List.flatten_cons]; simp
    have hl2 : (cs.set i (x.raw kx ix)).flatten.length = cs.flatten.length := by
      rw [flatten_length (sz := 5) _ h5', flatten_length (sz := 5) _ h5, List.length_set]
    rw [he]
    refine Reown.fold (cap := cap) (by rw [List.length_set]; exact hiv) (by rw [List.length_set]; exact hcap) h5' ?_ (List.take_left)
    rw [List.length_append, List.length_map, hl2]; exact hsz
  refine (Reown.hd (l := [okx, oix, .grp [.box b (pre ++ u.raw kv iv ++ post), ok, ob, oa, ctx]]) hfold).trans ?_
  refine ⟨fun y => by simp only [fps_cons, fps_nil, fp_grp, List.count_append, List.count_nil, List.singleton_append, V.raw, V.setAt, V.kind, V.bits, V.text]; simp only [Own.fp]; omega, fun w A h => ?_⟩
  simp only [List.forall_mem_cons, List.singleton_append, ok_grp, List.not_mem_nil, false_implies, implies_true, and_true] at h ⊢
  obtain ⟨q1, q2, q3, q4, q5, q6, q7, q8⟩ := h
  exact ⟨q4, q5, ⟨q1, q6, ⟨q2, q3⟩, q7⟩, q8⟩
/-- Where in a value one stands. -/
structure At where
  b : Nat
  off : Nat
  pre : List AV
  post : List AV
  u : V
  kv : Value
  iv : Value
  ok : Own
  oi : Own
  ctx : Own
  plug : V → V
structure At.Ok (z : At) (b0 : Nat) : Prop where
  off : z.pre.length = z.off
  tr : VTr z.u z.kv z.iv z.ok z.oi
  law : Law z.b z.pre z.post z.ctx b0 z.plug
  fine : z.u.Fine
  wf : z.u.wf
def holeC (z : At) (u : V) (kv iv : Value) : List AV := z.pre ++ u.raw kv iv ++ z.post
theorem holeC_eq (z : At) (u : V) (kv iv : Value) : holeC z u kv iv = z.pre ++ (u.raw kv iv ++ z.post) := List.append_assoc _ _ _
theorem hole_load {z : At} {u : V} {kv iv : Value} (h : z.pre.length = z.off) : ((holeC z u kv iv).drop z.off).take 5 = u.raw kv iv := by
  rw [holeC_eq, ← h, List.drop_left]
  exact List.take_left' rfl
theorem hole_at {z : At} {u : V} {kv iv : Value} (h : z.pre.length = z.off) (k : Nat) (hk : k < 5) : (holeC z u kv iv)[z.off + k]? = (u.raw kv iv)[k]? := by
  rw [holeC_eq, List.getElem?_append_right (by omega), List.getElem?_append_left (by rw [show (u.raw kv iv).length = 5 from rfl]; omega)]
  congr 1; omega
theorem splice_mid {α : Type} {a l c ys : List α} {k : Nat} (h : k + ys.length ≤ l.length) : splice (a ++ (l ++ c)) (a.length + k) ys = a ++ (splice l k ys ++ c) := by
  unfold splice
  rw [List.take_append, List.take_of_length_le (by omega), Nat.add_sub_cancel_left, List.take_append_of_le_length (by omega), Nat.add_assoc, List.drop_append, List.drop_eq_nil_of_le (by omega), List.nil_append, Nat.add_sub_cancel_left, List.drop_append_of_le_length h]
  simp
theorem hole_set {z : At} {u : V} {kv iv : Value} (h : z.pre.length = z.off) {k : Nat} {x : AV} (hk : k < 5) : splice (holeC z u kv iv) (z.off + k) [x] = z.pre ++ (splice (u.raw kv iv) k [x] ++ z.post) := by
  rw [holeC_eq, ← h, splice_mid (by rw [show (u.raw kv iv).length = 5 from rfl]; simp; omega)]
theorem hole_put {z : At} {u x : V} {kv iv kx ix : Value} (h : z.pre.length = z.off) : splice (holeC z u kv iv) z.off (x.raw kx ix) = holeC z x kx ix := by
  have := splice_mid (a := z.pre) (l := u.raw kv iv) (c := z.post) (ys := x.raw kx ix) (k := 0) (by simp [V.raw])
  rw [Nat.add_zero, h] at this
  rw [holeC_eq, this, holeC_eq]
  rfl
theorem hole_len (z : At) (u : V) (kv iv : Value) (h : z.pre.length = z.off) : (holeC z u kv iv).length = z.off + 5 + z.post.length := by
  rw [holeC_eq, List.length_append, List.length_append, show (u.raw kv iv).length = 5 from rfl]; omega
section
variable {P : Program} {E : Ent} {st : St} {t et ty : TypeId} {pos : String} {af : Array Edge} {dd : Option Tmp} {gd : Option (Nat × Bool)} {x y : Operand} {g : Bool} {n B : Nat}
/-- An element's place in a part of an own block. -/
theorem QW.index_c {b off len cap m : Nat} {k : IntKind} {i : Int} (hU : P.underlying t = some (.slice et)) (hT : tySz P et = some (g, n, B)) (hx : Ev E st x (.c (sv b off len cap))) (hi : Ev E st y (.c (.int k i))) (hm : i = (m : Int)) (hlt : m < len) :
    QW P E st ⟨dd, .indexAddr t x y, ty, pos, af, gd⟩ (.c (.pointer (some ⟨b, off + m * n, none⟩))) := .pure fun A a w hs => by
  subst hm
  refine ⟨.pointer (some ⟨b, off + m * n, none⟩), ?_, .c _⟩
  simp only [execOp, hx.eq hs, hi.eq hs, Instr.indexAt, asIntOf, Sem.run_bind, Sem.run_pure, Result.andThen_ok, run_underlying _ hU]
  rw [if_pos (by omega)]
  simp [run_sizeOf hT, add_at]
end
end Go.Proofs.Ytkiankpmkglhcaa.J

/- Items (effects on their way) and boxes of them, as plain data. -/
namespace Go.Proofs.Ytkiankpmkglhcaa.J
open Go Go.RowKit
set_option linter.unusedVariables false
set_option linter.unusedSimpArgs false
structure ItT where
  id : Int
  ev : EvT
  deriving DecidableEq
def eIt : ETy := ⟨7, 104⟩
def ItT.cs (fr : Bool) (e : ItT) : List AV := .c (.int .i64 e.id) :: e.ev.cs fr
def ItT.css (fr : Bool) (l : List ItT) : List (List AV) := l.map (ItT.cs fr)
theorem ItT.cs_length (fr : Bool) (e : ItT) : (e.cs fr).length = 7 := by simp [ItT.cs, EvT.cs_length]
theorem ItT.css_length (fr : Bool) (l : List ItT) : (ItT.css fr l).length = l.length := by simp [ItT.css]
theorem ItT.css_get (fr : Bool) {l : List ItT} {i : Nat} {v : ItT} (h : l[i]? = some v) : (ItT.css fr l)[i]? = some (v.cs fr) := by simp [ItT.css, h]
theorem ItT.css_getE (fr : Bool) {l : List ItT} {i : Nat} (h : i < l.length) : (ItT.css fr l)[i]? = some ((l[i]).cs fr) := ItT.css_get fr (List.getElem?_eq_getElem h)
theorem ItT.css_append (fr : Bool) (a b : List ItT) : ItT.css fr (a ++ b) = ItT.css fr a ++ ItT.css fr b := by simp [ItT.css]
theorem ItT.css_sz (fr : Bool) (l : List ItT) : ∀ x ∈ ItT.css fr l, x.length = eIt.sz := by
  intro x hx
  obtain ⟨v, _, rfl⟩ := List.mem_map.1 hx
  exact ItT.cs_length fr v
def Ic (fr : Bool) (e : ItT) (ys : List AV) : Prop := ys = e.cs fr
theorem Ic.self {fr : Bool} {e : ItT} : Ic fr e (e.cs fr) := rfl
theorem Ic.mk {fr : Bool} {n : Int} {v : EvT} : Ic fr ⟨n, v⟩ (.c (.int .i64 n) :: v.cs fr) := rfl
theorem ItT.cs_fl (fr : Bool) (e : ItT) : FlL (· = fr) (e.cs fr) := .cons (.c _) (EvT.cs_fl fr _)
theorem ItT.css_fl (fr : Bool) (l : List ItT) : FlL (· = fr) (ItT.css fr l).flatten := FlL.flat fun x hx => by
  obtain ⟨v, _, rfl⟩ := List.mem_map.1 hx
  exact v.cs_fl fr
theorem ItT.cs_le {F : List (Value × AV)} (fr fr' : Bool) (hf : fr' = true → fr = true) (e : ItT) : LeL F (e.cs fr) (e.cs fr') := .cons (.refl _) (EvT.cs_le fr fr' hf _)
theorem ItT.css_le {F : List (Value × AV)} (fr fr' : Bool) (hf : fr' = true → fr = true) : ∀ l : List ItT, LeL F (ItT.css fr l).flatten (ItT.css fr' l).flatten
  | [] => .nil
  | v :: r => by
    simp only [ItT.css, List.map_cons, List.flatten_cons]
    exact LeL.append (v.cs_le fr fr' hf) (ItT.css_le fr fr' hf r)
structure ItT.wf (e : ItT) : Prop where
  id : -9223372036854775808 ≤ e.id ∧ e.id ≤ 9223372036854775807
  ev : e.ev.wf
def ItT.wfs (l : List ItT) : Prop := l.length * 104 ≤ reach ∧ ∀ e ∈ l, e.wf
theorem ItT.wfs.len {l : List ItT} (h : ItT.wfs l) : l.length ≤ 1353245080300 := by have := h.1; unfold reach at this; omega
theorem ItT.wfs.take {l : List ItT} (h : ItT.wfs l) (k : Nat) : ItT.wfs (l.take k) := ⟨Nat.le_trans (Nat.mul_le_mul_right _ (by simp; omega)) h.1, fun e he => h.2 e (List.mem_of_mem_take he)⟩
theorem ItT.wfs.drop {l : List ItT} (h : ItT.wfs l) (k : Nat) : ItT.wfs (l.drop k) := ⟨Nat.le_trans (Nat.mul_le_mul_right _ (by simp)) h.1, fun e he => h.2 e (List.mem_of_mem_drop he)⟩
def ItT.raw (e : ItT) (kv iv : Value) : List AV := .c (.int .i64 e.id) :: e.ev.raw kv iv
def ItT.vals (e : ItT) (kv iv : Value) : List Value := .int .i64 e.id :: e.ev.vals kv iv
theorem ItT.trL {e : ItT} {kv iv : Value} {ok oi : Own} (h : VTr e.ev.arg kv iv ok oi) : TrL (e.cs true) (e.vals kv iv) (.grp [ok, oi]) := .cons (.c (.refl _)) (EvT.trL h) (.drops _)
theorem ItT.ones {e : ItT} {kv iv : Value} {ok oi : Own} (h : VTr e.ev.arg kv iv ok oi) : (e.vals kv iv).all (·.oneCell') = true := by
  have := EvT.ones (e := e.ev) h
  simp only [ItT.vals, List.all_cons, this, Bool.and_true]
  rfl
structure BT where
  last : Int
  items : List ItT
  deriving DecidableEq
def BT.nil : BT := ⟨0, []⟩
def BT.cs (fr : Bool) : BT → List AV
  | ⟨a, l⟩ => [.c (.int .i64 a), .sl fr false eIt (ItT.css fr l)]
theorem BT.cs_length (fr : Bool) : ∀ q : BT, (q.cs fr).length = 2
  | ⟨_, _⟩ => rfl
structure BT.wf (q : BT) : Prop where
  l1 : -9223372036854775808 ≤ q.last ∧ q.last ≤ 9223372036854775807
  it : ItT.wfs q.items
def Bc (fr : Bool) (q : BT) (ys : List AV) : Prop := ys = q.cs fr
theorem Bc.self {fr : Bool} {q : BT} : Bc fr q (q.cs fr) := rfl
theorem Bc.mk {fr : Bool} {a : Int} {l : List ItT} : Bc fr ⟨a, l⟩ [.c (.int .i64 a), .sl fr false eIt (ItT.css fr l)] := rfl
/-! ### the page -/
def idsOk (last : Int) : Int → List ItT → Bool
  | _, [] => true
  | p, x :: r => decide (p < x.id) && decide (x.id < 32 * (last + 1)) && evOk x.ev && idsOk last x.id r
def BT.ok (q : BT) : Bool := decide (0 ≤ q.last) && decide (q.last ≤ 1099511627776) && decide (q.items.length ≤ 256) && idsOk q.last 31 q.items
def BT.err (q : BT) : Int := if q.ok then 0 else 9
def evsErr : List EvT → Int
  | [] => 0
  | e :: r => if evErr e ≠ 0 then evErr e else evsErr r
def numIt (seq : Int) : Nat → List EvT → List ItT
  | _, [] => []
  | i, e :: r => ⟨32 * seq + i, e⟩ :: numIt seq (i + 1) r
def BT.add (q : BT) (seq : Int) (l : List EvT) : BT × Int :=
  if q.ok = false then (.nil, 9) else if seq ≤ q.last then (.nil, 32) else if 1099511627776 < seq then (.nil, 4) else if 32 < l.length then (.nil, 3) else
    if evsErr l ≠ 0 then (.nil, evsErr l) else if 256 < q.items.length + l.length then (.nil, 51) else (⟨seq, q.items ++ numIt seq 0 l⟩, 0)
def BT.next (q : BT) (n : Int) : List ItT × Int :=
  if q.ok = false then ([], 9) else if n < 0 then ([], 4) else (q.items.take n.toNat, 0)
end Go.Proofs.Ytkiankpmkglhcaa.J

/- Walks: events: may one be, lists of them. -/
namespace Go.Proofs.Ytkiankpmkglhcaa.J
open Go Go.RowKit
set_option linter.unusedVariables false
set_option linter.unusedSimpArgs false
set_option maxRecDepth 10000
set_option maxHeartbeats 4000000
end Go.Proofs.Ytkiankpmkglhcaa.J

/- Walks: lists of events: are two one; copies. -/
namespace Go.Proofs.Ytkiankpmkglhcaa.J
open Go Go.RowKit
set_option linter.unusedVariables false
set_option linter.unusedSimpArgs false
set_option maxRecDepth 10000
set_option maxHeartbeats 4000000
end Go.Proofs.Ytkiankpmkglhcaa.J

/- Walks: effects and items: may one be, lists of them, copies; the box in memory of its own. -/
namespace Go.Proofs.Ytkiankpmkglhcaa.J
open Go Go.RowKit
set_option linter.unusedVariables false
set_option linter.unusedSimpArgs false
set_option maxRecDepth 10000
set_option maxHeartbeats 4000000
end Go.Proofs.Ytkiankpmkglhcaa.J

/- Walks: slices.Insert of one element, slices.Delete of one. -/
namespace Go.Proofs.Ytkiankpmkglhcaa.J
open Go Go.RowKit
set_option linter.unusedVariables false
set_option linter.unusedSimpArgs false
set_option maxRecDepth 10000
set_option maxHeartbeats 4000000
theorem overStr : ∀ u v w, (callFunc 134 #[u, v]).run Try.prog w = ((Extern.SlicesOverlaps.overlaps #[23, 23] #[4] #[u, v]).run Try.prog w).andThen fun v w' => .ok (.value v) w' := fun u v w => run_callFunc_extern (P := Try.prog) Try.func134 (by kernel_rfl) (by kernel_rfl) (by kernel_rfl) (by kernel_rfl) _ w
theorem insStr_ok {v : Value} {xs : List (List AV)} {ys : List AV} {i : Nat} {fr clip : Bool} (hi : i ≤ xs.length) (hy : ys.length = 1) (hr : (xs.length + 1) * 16 ≤ reach) : AC Try.prog 111 [.arr v eStr xs] [.c v, .c (.int .i64 (i : Int)), .sl fr clip eStr [ys]] (RetR (CloneR eStr (xs.take i ++ [ys] ++ xs.drop i))) := by
  have hr2 := hr
  unfold reach at hr2
  refine AC.of_J Try.func111 rfl Try.ntmps111 rfl fun w0 A0 => ?_
  refine J.seq ?_
  refine J.region_lit ?_
  refine JL.q rfl rfl rfl (QW.assign .const) ?_
  refine JL.nil ?_
  refine thenQ.n ?_
  refine J.seq ?_
  refine J.region_lit ?_
  refine JL.q rfl rfl rfl (QW.move (.tmp rfl)) ?_
  refine JL.q rfl rfl rfl (QW.move (.tmp rfl)) ?_
  refine JL.cutAny 0 sl23 ty9 (.tmp rfl) rfl (.tmp rfl) rfl hi rfl fun u12 => ?_
  refine JL.nil ?_
  refine thenQ.n ?_
  refine J.seq ?_
  refine J.region_lit ?_
  refine JL.q rfl rfl rfl (QW.move (.tmp rfl)) ?_
  refine JL.q rfl rfl rfl (by first | exact QW.len_sl sl23 (.tmp rfl) | exact QW.len_nil sl23 (.tmp rfl)) ?_
  refine JL.q rfl rfl rfl (QW.assign (.tmp rfl)) ?_
  refine JL.nil ?_
  refine thenQ.n ?_
  refine J.seq ?_
  refine J.seq ?_
  refine J.region_lit ?_
  refine JL.q rfl rfl rfl (QW.move (.tmp rfl)) ?_
  refine JL.q rfl rfl rfl (QW.eql (.tmp rfl) .const) ?_
  refine JL.nil ?_
  refine thenQ.n ?_
  refine J.cond (.tmp rfl) (fun c1 => absurd c1 (by simp)) (fun c1 => ?_)
  refine J.skip ?_
  refine thenQ.n ?_
  refine J.seq ?_
  refine J.region_lit ?_
  refine JL.q rfl rfl rfl (QW.move (.tmp rfl)) ?_
  refine JL.q rfl rfl rfl (QW.len_arr 0 sl23 (.tmp rfl) rfl) ?_
  refine JL.q rfl rfl rfl (QW.assign (.tmp rfl)) ?_
  refine JL.nil ?_
  refine thenQ.n ?_
  refine J.seq ?_
  refine J.seq ?_
  refine J.region_lit ?_
  refine JL.q rfl rfl rfl (QW.move (.tmp rfl)) ?_
  refine JL.q rfl rfl rfl (QW.move (.tmp rfl)) ?_
  refine JL.q rfl rfl rfl (QW.eql (.tmp rfl) (.tmp rfl)) ?_
  refine JL.nil ?_
  refine thenQ.n ?_
  refine J.cond (.tmp rfl) (fun c2 => ?_) (fun c2 => ?_)
  · skip
    obtain rfl : i = xs.length := by simp at c2; omega
    refine J.seq ?_
    refine J.region_lit ?_
    refine JL.q rfl rfl rfl (QW.move (.tmp rfl)) ?_
    refine JL.q rfl rfl rfl (QW.move (.tmp rfl)) ?_
    refine JL.append 0 sl23 el9 rfl (.tmp rfl) rfl (srcA_sl sl23 (.tmp rfl)) (by first | omega | (simp; omega)) rfl fun v25 => ?_
    refine JL.isSlice 0 rfl fun hs1 => ?_
    refine JL.q rfl rfl rfl (QW.assign (.tmp rfl)) ?_
    refine JL.nil ?_
    refine thenQ.n ?_
    refine J.ret ?_
    refine thenQ.r ?_
    exact ⟨_, selP [.p] _, _, RetEv.one rfl (REv.tmp rfl (.refl _)), rfl, sel_perm [.p] _, ⟨_, rfl, _, rfl, hs1, by simp; rfl⟩⟩
  · skip
    have hlt : i < xs.length := by simp at c2; omega
    refine J.skip ?_
    refine thenQ.n ?_
    refine J.seq ?_
    refine J.seq ?_
    refine J.lay 0 rfl (fun a0 hv hx => absurd hlt (by rw [hx]; simp)) fun b cap sp hv hcap hsz hfl => ?_
    subst hv
    have hX : xs.flatten.length = xs.length * 1 := flatten_length xs hsz
    have hBl : (xs.flatten ++ sp.map AV.c).length = (cap + 1) * 1 := by rw [List.length_append, List.length_map]; exact hfl
    refine J.region_lit ?_
    refine JL.q rfl rfl rfl (QW.move (.tmp rfl)) ?_
    refine JL.q rfl rfl rfl (QW.move (.tmp rfl)) ?_
    refine JL.q rfl rfl rfl (QW.add (.tmp rfl) (.tmp rfl) (w64n (m := xs.length + 1) (by first | rfl | omega | (simp; done) | (simp; omega)) (by omega))) ?_
    refine JL.q rfl rfl rfl (QW.move (.tmp rfl)) ?_
    refine JL.q rfl rfl rfl (QW.cap_c sl23 (.tmp rfl)) ?_
    refine JL.q rfl rfl rfl (QW.gtr (.tmp rfl) (.tmp rfl)) ?_
    refine JL.nil ?_
    refine thenQ.n ?_
    refine J.cond (.tmp rfl) (fun c3 => ?_) (fun c3 => ?_)
    · skip
      have hgr : cap + 1 < xs.length + 1 := by simp at c3; omega
      refine J.seq ?_
      refine J.region_lit ?_
      refine JL.q rfl rfl rfl (QW.move (.tmp rfl)) ?_
      refine JL.q rfl rfl rfl (QW.move (.tmp rfl)) ?_
      refine JL.q rfl rfl rfl (QW.cutH (h := i) sl23 ty9 (.tmp rfl) (.tmp rfl) rfl (by omega)) ?_
      refine JL.q rfl rfl rfl (QW.move (.tmp rfl)) ?_
      refine JL.q rfl rfl rfl (QW.move (.tmp rfl)) ?_
      refine JL.q rfl rfl rfl (QW.add (.tmp rfl) (.tmp rfl) (w64n (m := xs.length + 1) (by first | rfl | omega | (simp; done) | (simp; omega)) (by omega))) ?_
      refine JL.q rfl rfl rfl (QW.move (.tmp rfl)) ?_
      refine JL.q rfl rfl rfl (QW.sub (.tmp rfl) (.tmp rfl) (w64n (m := xs.length + 1 - i) (by omega) (by omega))) ?_
      refine JL.appMake 0 sl23 iu3 el9 rfl (.tmp rfl) rfl (.tmp rfl) (by omega) (by omega) (by show 0 + i * 1 ≤ _; rw [hBl]; omega) (by rw [show i + (xs.length + 1 - i) = xs.length + 1 by omega]; exact hr) (by unfold reach; omega) rfl fun b2 cap2 tl hc2 hhl htl => ?_
      have hNl : (((xs.flatten ++ sp.map AV.c).drop 0).take (i * 1) ++ tl).length = (cap2 + 1) * 1 := by rw [List.length_append]; exact (congrArg (· + tl.length) hhl).trans htl
      have htl2 : i * 1 + tl.length = (cap2 + 1) * 1 := htl
      have hml : (((xs.flatten ++ sp.map AV.c).drop (i * 1)).take (xs.flatten.length - i * 1)).length = xs.flatten.length - i * 1 := by rw [List.length_take, List.length_drop, hBl]; omega
      refine JL.q rfl rfl rfl (QW.assign (.tmp rfl)) ?_
      refine JL.nil ?_
      refine thenQ.n ?_
      refine J.seq ?_
      refine J.region_lit ?_
      refine JL.q rfl rfl rfl (QW.move (.tmp rfl)) ?_
      refine JL.q rfl rfl rfl (QW.move (.tmp rfl)) ?_
      refine JL.q rfl rfl rfl (QW.cutL (l := i) (off' := i * 1) sl23 ty9 (.tmp rfl) (.tmp rfl) rfl (by omega) (by omega) (by rw [if_neg (by omega)]; omega)) ?_
      refine JL.q rfl rfl rfl (QW.move (.tmp rfl)) ?_
      refine JL.copyN 0 sl23 ty9 (.tmp rfl) rfl (SrcN.one (.tmp rfl) rfl hy) (Nat.min_eq_left (by omega)) (by rw [hNl, hy]; omega) rfl ?_
      refine JL.nil ?_
      refine thenQ.n ?_
      refine J.seq ?_
      refine J.region_tailK 8 mixed (by kernel_rfl) (by kernel_rfl) (by kernel_rfl) rfl ?_
      refine .cons [] rfl rfl rfl (.q rfl (QW.move (.tmp rfl))) ?_
      refine .cons [] rfl rfl rfl (.q rfl (QW.move (.tmp rfl))) ?_
      refine .cons [] rfl rfl rfl (.q rfl (QW.move (.tmp rfl))) ?_
      refine .cons [47, 48] rfl rfl rfl (.q rfl (QW.add (.tmp rfl) (.tmp rfl) (w64n (m := i + 1) (by first | rfl | omega | (simp; done) | (simp; omega)) (by omega)))) ?_
      refine .cons [46, 49] rfl rfl rfl (.q rfl (QW.cutL (l := i + 1) (off' := i * 1 + 1) sl23 ty9 (.tmp rfl) (.tmp rfl) rfl (by omega) (by omega) (by rw [if_neg (by omega)]; omega))) ?_
      refine .cons [] rfl rfl rfl (.q rfl (QW.move (.tmp rfl))) ?_
      refine .cons [] rfl rfl rfl (.q rfl (QW.move (.tmp rfl))) ?_
      refine .cons [51, 52] rfl rfl rfl (.q rfl (QW.cutL (l := i) (off' := i * 1) sl23 ty9 (.tmp rfl) (.tmp rfl) rfl (by omega) (by omega) (by rw [if_neg (by omega)]; omega))) ?_
      refine .nil ?_
      refine JL.copyN 0 sl23 ty9 (.tmp rfl) rfl (SrcN.boxE (i2 := 1) (mm := xs.length - i) (q := xs.flatten.length - i * 1) (.tmp rfl) rfl (by omega) (Nat.le_refl _) (by rw [hBl]; omega)) (Nat.min_eq_left (by omega)) (by rw [splice_length (by rw [hNl, hy]; omega), hNl, hml]; omega) rfl ?_
      refine JL.nil ?_
      refine thenQ.n ?_
      refine J.seq ?_
      refine J.fold 0 (xs.take i ++ [ys] ++ xs.drop i) rfl (v := sv b2 0 (i + (xs.length + 1 - i)) (cap2 + 1)) (by rw [ins_len hi, show i + (xs.length + 1 - i) = xs.length + 1 by omega]) (by rw [ins_len hi]; omega) (ins_sz hsz hy) (by rw [splice_length (by rw [splice_length (by rw [hNl, hy]; omega), hNl, hml]; omega), splice_length (by rw [hNl, hy]; omega), hNl]; rfl) (by rw [ins_flen hsz hy, ins_flat hsz]; exact ins_grow (X := xs.flatten) (sp := sp.map AV.c) (tl := tl) (a := i * 1) (m := 1) (by omega) hy (by omega)) rfl ?_
      refine J.region_lit ?_
      refine JL.q rfl rfl rfl (QW.move (.tmp rfl)) ?_
      refine JL.q rfl rfl rfl (QW.assign (.tmp rfl)) ?_
      refine JL.nil ?_
      refine thenQ.n ?_
      refine J.ret ?_
      refine thenQ.r ?_
      exact ⟨_, selP [.p, .k] _, _, RetEv.one rfl (REv.tmp rfl (.refl _)), rfl, sel_perm [.p, .k] _, ⟨_, rfl, _, rfl, rfl, rfl⟩⟩
    · skip
      have hroom : xs.length + 1 ≤ cap + 1 := by simp at c3; omega
      refine J.skip ?_
      refine thenQ.n ?_
      refine J.seq ?_
      refine J.region_lit ?_
      refine JL.q rfl rfl rfl (QW.move (.tmp rfl)) ?_
      refine JL.q rfl rfl rfl (QW.move (.tmp rfl)) ?_
      refine JL.q rfl rfl rfl (QW.move (.tmp rfl)) ?_
      refine JL.q rfl rfl rfl (QW.add (.tmp rfl) (.tmp rfl) (w64n (m := xs.length + 1) (by first | rfl | omega | (simp; done) | (simp; omega)) (by omega))) ?_
      refine JL.q rfl rfl rfl (QW.cutH (h := xs.length + 1) sl23 ty9 (.tmp rfl) (.tmp rfl) rfl (by omega)) ?_
      refine JL.q rfl rfl rfl (QW.assign (.tmp rfl)) ?_
      refine JL.nil ?_
      refine thenQ.n ?_
      refine J.seq ?_
      refine J.seq ?_
      refine J.region_lit ?_
      refine JL.q rfl rfl rfl (QW.move (.tmp rfl)) ?_
      refine JL.q rfl rfl rfl (QW.move (.tmp rfl)) ?_
      refine JL.q rfl rfl rfl (QW.move (.tmp rfl)) ?_
      refine JL.q rfl rfl rfl (QW.move (.tmp rfl)) ?_
      refine JL.q rfl rfl rfl (QW.add (.tmp rfl) (.tmp rfl) (w64n (m := i + 1) (by first | rfl | omega | (simp; done) | (simp; omega)) (by omega))) ?_
      refine JL.q rfl rfl rfl (QW.cutL (l := i + 1) (off' := i * 1 + 1) sl23 ty9 (.tmp rfl) (.tmp rfl) rfl (by omega) (by omega) (by rw [if_neg (by omega)]; omega)) ?_
      refine JL.q rfl rfl rfl (QW.apart 0 sl23 ty9 overStr (.tmp rfl) (.tmp rfl) rfl (by intro h0; simp at h0; subst h0; simp at hy) (by intro h0; have := congrArg List.length h0; rw [hBl] at this; simp at this)) ?_
      refine JL.q rfl rfl rfl (QW.not (.tmp rfl)) ?_
      refine JL.nil ?_
      refine thenQ.n ?_
      refine J.cond (.tmp rfl) (fun c4 => ?_) (fun c4 => absurd c4 (by simp))
      refine J.seq ?_
      have hml : (((xs.flatten ++ sp.map AV.c).drop (i * 1)).take (xs.flatten.length - i * 1)).length = xs.flatten.length - i * 1 := by rw [List.length_take, List.length_drop, hBl]; omega
      refine J.region_tailK 8 mixed (by kernel_rfl) (by kernel_rfl) (by kernel_rfl) rfl ?_
      refine .cons [] rfl rfl rfl (.q rfl (QW.move (.tmp rfl))) ?_
      refine .cons [] rfl rfl rfl (.q rfl (QW.move (.tmp rfl))) ?_
      refine .cons [] rfl rfl rfl (.q rfl (QW.move (.tmp rfl))) ?_
      refine .cons [70, 71] rfl rfl rfl (.q rfl (QW.add (.tmp rfl) (.tmp rfl) (w64n (m := i + 1) (by first | rfl | omega | (simp; done) | (simp; omega)) (by omega)))) ?_
      refine .cons [69, 72] rfl rfl rfl (.q rfl (QW.cutL (l := i + 1) (off' := i * 1 + 1) sl23 ty9 (.tmp rfl) (.tmp rfl) rfl (by omega) (by omega) (by rw [if_neg (by omega)]; omega))) ?_
      refine .cons [] rfl rfl rfl (.q rfl (QW.move (.tmp rfl))) ?_
      refine .cons [] rfl rfl rfl (.q rfl (QW.move (.tmp rfl))) ?_
      refine .cons [74, 75] rfl rfl rfl (.q rfl (QW.cutL (l := i) (off' := i * 1) sl23 ty9 (.tmp rfl) (.tmp rfl) rfl (by omega) (by omega) (by rw [if_neg (by omega)]; omega))) ?_
      refine .nil ?_
      refine JL.copyN 0 sl23 ty9 (.tmp rfl) rfl (SrcN.boxE (i2 := 0) (mm := xs.length - i) (q := xs.flatten.length - i * 1) (.tmp rfl) rfl (by omega) (by omega) (by rw [hBl]; omega)) (by show min _ _ = _; omega) (by rw [hBl, hml]; omega) rfl ?_
      refine JL.nil ?_
      refine thenQ.n ?_
      refine J.seq ?_
      refine J.region_lit ?_
      refine JL.q rfl rfl rfl (QW.move (.tmp rfl)) ?_
      refine JL.q rfl rfl rfl (QW.move (.tmp rfl)) ?_
      refine JL.q rfl rfl rfl (QW.cutL (l := i) (off' := i * 1) sl23 ty9 (.tmp rfl) (.tmp rfl) rfl (by omega) (by omega) (by rw [if_neg (by omega)]; omega)) ?_
      refine JL.q rfl rfl rfl (QW.move (.tmp rfl)) ?_
      refine JL.copyN 0 sl23 ty9 (.tmp rfl) rfl (SrcN.one (.tmp rfl) rfl hy) (Nat.min_eq_left (by omega)) (by rw [splice_length (by rw [hBl, hml]; omega), hBl, hy]; omega) rfl ?_
      refine JL.nil ?_
      refine thenQ.n ?_
      refine J.seq ?_
      refine J.fold 0 (xs.take i ++ [ys] ++ xs.drop i) rfl (v := sv b 0 (xs.length + 1) (cap + 1)) (by rw [ins_len hi]) (by rw [ins_len hi]; omega) (ins_sz hsz hy) (by rw [splice_length (by rw [splice_length (by rw [hBl, hml]; omega), hBl, hy]; omega), splice_length (by rw [hBl, hml]; omega), hBl]; rfl) (by rw [ins_flen hsz hy, ins_flat hsz]; exact ins_shift (X := xs.flatten) (sp := sp.map AV.c) (a := i * 1) (m := 1) (by omega) hy (by rw [hBl]; omega)) rfl ?_
      refine J.region_lit ?_
      refine JL.q rfl rfl rfl (QW.move (.tmp rfl)) ?_
      refine JL.q rfl rfl rfl (QW.assign (.tmp rfl)) ?_
      refine JL.nil ?_
      refine thenQ.n ?_
      refine J.ret ?_
      refine thenQ.r ?_
      exact ⟨_, selP [.p] _, _, RetEv.one rfl (REv.tmp rfl (.refl _)), rfl, sel_perm [.p] _, ⟨_, rfl, _, rfl, rfl, rfl⟩⟩
theorem overVal : ∀ u v w, (callFunc 136 #[u, v]).run Try.prog w = ((Extern.SlicesOverlaps.overlaps #[24, 24] #[4] #[u, v]).run Try.prog w).andThen fun v w' => .ok (.value v) w' := fun u v w => run_callFunc_extern (P := Try.prog) Try.func136 (by kernel_rfl) (by kernel_rfl) (by kernel_rfl) (by kernel_rfl) _ w
theorem insVal_ok {v : Value} {xs : List (List AV)} {ys : List AV} {i : Nat} {fr clip : Bool} (hi : i ≤ xs.length) (hy : ys.length = 5) (hr : (xs.length + 1) * 80 ≤ reach) : AC Try.prog 112 [.arr v eV xs] [.c v, .c (.int .i64 (i : Int)), .sl fr clip eV [ys]] (RetR (CloneR eV (xs.take i ++ [ys] ++ xs.drop i))) := by
  have hr2 := hr
  unfold reach at hr2
  refine AC.of_J Try.func112 rfl Try.ntmps112 rfl fun w0 A0 => ?_
  refine J.seq ?_
  refine J.region_lit ?_
  refine JL.q rfl rfl rfl (QW.assign .const) ?_
  refine JL.nil ?_
  refine thenQ.n ?_
  refine J.seq ?_
  refine J.region_lit ?_
  refine JL.q rfl rfl rfl (QW.move (.tmp rfl)) ?_
  refine JL.q rfl rfl rfl (QW.move (.tmp rfl)) ?_
  refine JL.cutAny 0 sl24 ty26 (.tmp rfl) rfl (.tmp rfl) rfl hi rfl fun u12 => ?_
  refine JL.nil ?_
  refine thenQ.n ?_
  refine J.seq ?_
  refine J.region_lit ?_
  refine JL.q rfl rfl rfl (QW.move (.tmp rfl)) ?_
  refine JL.q rfl rfl rfl (by first | exact QW.len_sl sl24 (.tmp rfl) | exact QW.len_nil sl24 (.tmp rfl)) ?_
  refine JL.q rfl rfl rfl (QW.assign (.tmp rfl)) ?_
  refine JL.nil ?_
  refine thenQ.n ?_
  refine J.seq ?_
  refine J.seq ?_
  refine J.region_lit ?_
  refine JL.q rfl rfl rfl (QW.move (.tmp rfl)) ?_
  refine JL.q rfl rfl rfl (QW.eql (.tmp rfl) .const) ?_
  refine JL.nil ?_
  refine thenQ.n ?_
  refine J.cond (.tmp rfl) (fun c1 => absurd c1 (by simp)) (fun c1 => ?_)
  refine J.skip ?_
  refine thenQ.n ?_
  refine J.seq ?_
  refine J.region_lit ?_
  refine JL.q rfl rfl rfl (QW.move (.tmp rfl)) ?_
  refine JL.q rfl rfl rfl (QW.len_arr 0 sl24 (.tmp rfl) rfl) ?_
  refine JL.q rfl rfl rfl (QW.assign (.tmp rfl)) ?_
  refine JL.nil ?_
  refine thenQ.n ?_
  refine J.seq ?_
  refine J.seq ?_
  refine J.region_lit ?_
  refine JL.q rfl rfl rfl (QW.move (.tmp rfl)) ?_
  refine JL.q rfl rfl rfl (QW.move (.tmp rfl)) ?_
  refine JL.q rfl rfl rfl (QW.eql (.tmp rfl) (.tmp rfl)) ?_
  refine JL.nil ?_
  refine thenQ.n ?_
  refine J.cond (.tmp rfl) (fun c2 => ?_) (fun c2 => ?_)
  · skip
    obtain rfl : i = xs.length := by simp at c2; omega
    refine J.seq ?_
    refine J.region_lit ?_
    refine JL.q rfl rfl rfl (QW.move (.tmp rfl)) ?_
    refine JL.q rfl rfl rfl (QW.move (.tmp rfl)) ?_
    refine JL.append 0 sl24 el26 rfl (.tmp rfl) rfl (srcA_sl sl24 (.tmp rfl)) (by first | omega | (simp; omega)) rfl fun v25 => ?_
    refine JL.isSlice 0 rfl fun hs1 => ?_
    refine JL.q rfl rfl rfl (QW.assign (.tmp rfl)) ?_
    refine JL.nil ?_
    refine thenQ.n ?_
    refine J.ret ?_
    refine thenQ.r ?_
    exact ⟨_, selP [.p] _, _, RetEv.one rfl (REv.tmp rfl (.refl _)), rfl, sel_perm [.p] _, ⟨_, rfl, _, rfl, hs1, by simp; rfl⟩⟩
  · skip
    have hlt : i < xs.length := by simp at c2; omega
    refine J.skip ?_
    refine thenQ.n ?_
    refine J.seq ?_
    refine J.seq ?_
    refine J.lay 0 rfl (fun a0 hv hx => absurd hlt (by rw [hx]; simp)) fun b cap sp hv hcap hsz hfl => ?_
    subst hv
    have hX : xs.flatten.length = xs.length * 5 := flatten_length xs hsz
    have hBl : (xs.flatten ++ sp.map AV.c).length = (cap + 1) * 5 := by rw [List.length_append, List.length_map]; exact hfl
    refine J.region_lit ?_
    refine JL.q rfl rfl rfl (QW.move (.tmp rfl)) ?_
    refine JL.q rfl rfl rfl (QW.move (.tmp rfl)) ?_
    refine JL.q rfl rfl rfl (QW.add (.tmp rfl) (.tmp rfl) (w64n (m := xs.length + 1) (by first | rfl | omega | (simp; done) | (simp; omega)) (by omega))) ?_
    refine JL.q rfl rfl rfl (QW.move (.tmp rfl)) ?_
    refine JL.q rfl rfl rfl (QW.cap_c sl24 (.tmp rfl)) ?_
    refine JL.q rfl rfl rfl (QW.gtr (.tmp rfl) (.tmp rfl)) ?_
    refine JL.nil ?_
    refine thenQ.n ?_
    refine J.cond (.tmp rfl) (fun c3 => ?_) (fun c3 => ?_)
    · skip
      have hgr : cap + 1 < xs.length + 1 := by simp at c3; omega
      refine J.seq ?_
      refine J.region_lit ?_
      refine JL.q rfl rfl rfl (QW.move (.tmp rfl)) ?_
      refine JL.q rfl rfl rfl (QW.move (.tmp rfl)) ?_
      refine JL.q rfl rfl rfl (QW.cutH (h := i) sl24 ty26 (.tmp rfl) (.tmp rfl) rfl (by omega)) ?_
      refine JL.q rfl rfl rfl (QW.move (.tmp rfl)) ?_
      refine JL.q rfl rfl rfl (QW.move (.tmp rfl)) ?_
      refine JL.q rfl rfl rfl (QW.add (.tmp rfl) (.tmp rfl) (w64n (m := xs.length + 1) (by first | rfl | omega | (simp; done) | (simp; omega)) (by omega))) ?_
      refine JL.q rfl rfl rfl (QW.move (.tmp rfl)) ?_
      refine JL.q rfl rfl rfl (QW.sub (.tmp rfl) (.tmp rfl) (w64n (m := xs.length + 1 - i) (by omega) (by omega))) ?_
      refine JL.appMake 0 sl24 iu3 el26 rfl (.tmp rfl) rfl (.tmp rfl) (by omega) (by omega) (by show 0 + i * 5 ≤ _; rw [hBl]; omega) (by rw [show i + (xs.length + 1 - i) = xs.length + 1 by omega]; exact hr) (by unfold reach; omega) rfl fun b2 cap2 tl hc2 hhl htl => ?_
      have hNl : (((xs.flatten ++ sp.map AV.c).drop 0).take (i * 5) ++ tl).length = (cap2 + 1) * 5 := by rw [List.length_append]; exact (congrArg (· + tl.length) hhl).trans htl
      have htl2 : i * 5 + tl.length = (cap2 + 1) * 5 := htl
      have hml : (((xs.flatten ++ sp.map AV.c).drop (i * 5)).take (xs.flatten.length - i * 5)).length = xs.flatten.length - i * 5 := by rw [List.length_take, List.length_drop, hBl]; omega
      refine JL.q rfl rfl rfl (QW.assign (.tmp rfl)) ?_
      refine JL.nil ?_
      refine thenQ.n ?_
      refine J.seq ?_
      refine J.region_lit ?_
      refine JL.q rfl rfl rfl (QW.move (.tmp rfl)) ?_
      refine JL.q rfl rfl rfl (QW.move (.tmp rfl)) ?_
      refine JL.q rfl rfl rfl (QW.cutL (l := i) (off' := i * 5) sl24 ty26 (.tmp rfl) (.tmp rfl) rfl (by omega) (by omega) (by rw [if_neg (by omega)]; omega)) ?_
      refine JL.q rfl rfl rfl (QW.move (.tmp rfl)) ?_
      refine JL.copyN 0 sl24 ty26 (.tmp rfl) rfl (SrcN.one (.tmp rfl) rfl hy) (Nat.min_eq_left (by omega)) (by rw [hNl, hy]; omega) rfl ?_
      refine JL.nil ?_
      refine thenQ.n ?_
      refine J.seq ?_
      refine J.region_tailK 8 mixed (by kernel_rfl) (by kernel_rfl) (by kernel_rfl) rfl ?_
      refine .cons [] rfl rfl rfl (.q rfl (QW.move (.tmp rfl))) ?_
      refine .cons [] rfl rfl rfl (.q rfl (QW.move (.tmp rfl))) ?_
      refine .cons [] rfl rfl rfl (.q rfl (QW.move (.tmp rfl))) ?_
      refine .cons [47, 48] rfl rfl rfl (.q rfl (QW.add (.tmp rfl) (.tmp rfl) (w64n (m := i + 1) (by first | rfl | omega | (simp; done) | (simp; omega)) (by omega)))) ?_
      refine .cons [46, 49] rfl rfl rfl (.q rfl (QW.cutL (l := i + 1) (off' := i * 5 + 5) sl24 ty26 (.tmp rfl) (.tmp rfl) rfl (by omega) (by omega) (by rw [if_neg (by omega)]; omega))) ?_
      refine .cons [] rfl rfl rfl (.q rfl (QW.move (.tmp rfl))) ?_
      refine .cons [] rfl rfl rfl (.q rfl (QW.move (.tmp rfl))) ?_
      refine .cons [51, 52] rfl rfl rfl (.q rfl (QW.cutL (l := i) (off' := i * 5) sl24 ty26 (.tmp rfl) (.tmp rfl) rfl (by omega) (by omega) (by rw [if_neg (by omega)]; omega))) ?_
      refine .nil ?_
      refine JL.copyN 0 sl24 ty26 (.tmp rfl) rfl (SrcN.boxE (i2 := 1) (mm := xs.length - i) (q := xs.flatten.length - i * 5) (.tmp rfl) rfl (by omega) (Nat.le_refl _) (by rw [hBl]; omega)) (Nat.min_eq_left (by omega)) (by rw [splice_length (by rw [hNl, hy]; omega), hNl, hml]; omega) rfl ?_
      refine JL.nil ?_
      refine thenQ.n ?_
      refine J.seq ?_
      refine J.fold 0 (xs.take i ++ [ys] ++ xs.drop i) rfl (v := sv b2 0 (i + (xs.length + 1 - i)) (cap2 + 1)) (by rw [ins_len hi, show i + (xs.length + 1 - i) = xs.length + 1 by omega]) (by rw [ins_len hi]; omega) (ins_sz hsz hy) (by rw [splice_length (by rw [splice_length (by rw [hNl, hy]; omega), hNl, hml]; omega), splice_length (by rw [hNl, hy]; omega), hNl]; rfl) (by rw [ins_flen hsz hy, ins_flat hsz]; exact ins_grow (X := xs.flatten) (sp := sp.map AV.c) (tl := tl) (a := i * 5) (m := 5) (by omega) hy (by omega)) rfl ?_
      refine J.region_lit ?_
      refine JL.q rfl rfl rfl (QW.move (.tmp rfl)) ?_
      refine JL.q rfl rfl rfl (QW.assign (.tmp rfl)) ?_
      refine JL.nil ?_
      refine thenQ.n ?_
      refine J.ret ?_
      refine thenQ.r ?_
      exact ⟨_, selP [.p, .k] _, _, RetEv.one rfl (REv.tmp rfl (.refl _)), rfl, sel_perm [.p, .k] _, ⟨_, rfl, _, rfl, rfl, rfl⟩⟩
    · skip
      have hroom : xs.length + 1 ≤ cap + 1 := by simp at c3; omega
      refine J.skip ?_
      refine thenQ.n ?_
      refine J.seq ?_
      refine J.region_lit ?_
      refine JL.q rfl rfl rfl (QW.move (.tmp rfl)) ?_
      refine JL.q rfl rfl rfl (QW.move (.tmp rfl)) ?_
      refine JL.q rfl rfl rfl (QW.move (.tmp rfl)) ?_
      refine JL.q rfl rfl rfl (QW.add (.tmp rfl) (.tmp rfl) (w64n (m := xs.length + 1) (by first | rfl | omega | (simp; done) | (simp; omega)) (by omega))) ?_
      refine JL.q rfl rfl rfl (QW.cutH (h := xs.length + 1) sl24 ty26 (.tmp rfl) (.tmp rfl) rfl (by omega)) ?_
      refine JL.q rfl rfl rfl (QW.assign (.tmp rfl)) ?_
      refine JL.nil ?_
      refine thenQ.n ?_
      refine J.seq ?_
      refine J.seq ?_
      refine J.region_lit ?_
      refine JL.q rfl rfl rfl (QW.move (.tmp rfl)) ?_
      refine JL.q rfl rfl rfl (QW.move (.tmp rfl)) ?_
      refine JL.q rfl rfl rfl (QW.move (.tmp rfl)) ?_
      refine JL.q rfl rfl rfl (QW.move (.tmp rfl)) ?_
      refine JL.q rfl rfl rfl (QW.add (.tmp rfl) (.tmp rfl) (w64n (m := i + 1) (by first | rfl | omega | (simp; done) | (simp; omega)) (by omega))) ?_
      refine JL.q rfl rfl rfl (QW.cutL (l := i + 1) (off' := i * 5 + 5) sl24 ty26 (.tmp rfl) (.tmp rfl) rfl (by omega) (by omega) (by rw [if_neg (by omega)]; omega)) ?_
      refine JL.q rfl rfl rfl (QW.apart 0 sl24 ty26 overVal (.tmp rfl) (.tmp rfl) rfl (by intro h0; simp at h0; subst h0; simp at hy) (by intro h0; have := congrArg List.length h0; rw [hBl] at this; simp at this)) ?_
      refine JL.q rfl rfl rfl (QW.not (.tmp rfl)) ?_
      refine JL.nil ?_
      refine thenQ.n ?_
      refine J.cond (.tmp rfl) (fun c4 => ?_) (fun c4 => absurd c4 (by simp))
      refine J.seq ?_
      have hml : (((xs.flatten ++ sp.map AV.c).drop (i * 5)).take (xs.flatten.length - i * 5)).length = xs.flatten.length - i * 5 := by rw [List.length_take, List.length_drop, hBl]; omega
      refine J.region_tailK 8 mixed (by kernel_rfl) (by kernel_rfl) (by kernel_rfl) rfl ?_
      refine .cons [] rfl rfl rfl (.q rfl (QW.move (.tmp rfl))) ?_
      refine .cons [] rfl rfl rfl (.q rfl (QW.move (.tmp rfl))) ?_
      refine .cons [] rfl rfl rfl (.q rfl (QW.move (.tmp rfl))) ?_
      refine .cons [70, 71] rfl rfl rfl (.q rfl (QW.add (.tmp rfl) (.tmp rfl) (w64n (m := i + 1) (by first | rfl | omega | (simp; done) | (simp; omega)) (by omega)))) ?_
      refine .cons [69, 72] rfl rfl rfl (.q rfl (QW.cutL (l := i + 1) (off' := i * 5 + 5) sl24 ty26 (.tmp rfl) (.tmp rfl) rfl (by omega) (by omega) (by rw [if_neg (by omega)]; omega))) ?_
      refine .cons [] rfl rfl rfl (.q rfl (QW.move (.tmp rfl))) ?_
      refine .cons [] rfl rfl rfl (.q rfl (QW.move (.tmp rfl))) ?_
      refine .cons [74, 75] rfl rfl rfl (.q rfl (QW.cutL (l := i) (off' := i * 5) sl24 ty26 (.tmp rfl) (.tmp rfl) rfl (by omega) (by omega) (by rw [if_neg (by omega)]; omega))) ?_
      refine .nil ?_
      refine JL.copyN 0 sl24 ty26 (.tmp rfl) rfl (SrcN.boxE (i2 := 0) (mm := xs.length - i) (q := xs.flatten.length - i * 5) (.tmp rfl) rfl (by omega) (by omega) (by rw [hBl]; omega)) (by show min _ _ = _; omega) (by rw [hBl, hml]; omega) rfl ?_
      refine JL.nil ?_
      refine thenQ.n ?_
      refine J.seq ?_
      refine J.region_lit ?_
      refine JL.q rfl rfl rfl (QW.move (.tmp rfl)) ?_
      refine JL.q rfl rfl rfl (QW.move (.tmp rfl)) ?_
      refine JL.q rfl rfl rfl (QW.cutL (l := i) (off' := i * 5) sl24 ty26 (.tmp rfl) (.tmp rfl) rfl (by omega) (by omega) (by rw [if_neg (by omega)]; omega)) ?_
      refine JL.q rfl rfl rfl (QW.move (.tmp rfl)) ?_
      refine JL.copyN 0 sl24 ty26 (.tmp rfl) rfl (SrcN.one (.tmp rfl) rfl hy) (Nat.min_eq_left (by omega)) (by rw [splice_length (by rw [hBl, hml]; omega), hBl, hy]; omega) rfl ?_
      refine JL.nil ?_
      refine thenQ.n ?_
      refine J.seq ?_
      refine J.fold 0 (xs.take i ++ [ys] ++ xs.drop i) rfl (v := sv b 0 (xs.length + 1) (cap + 1)) (by rw [ins_len hi]) (by rw [ins_len hi]; omega) (ins_sz hsz hy) (by rw [splice_length (by rw [splice_length (by rw [hBl, hml]; omega), hBl, hy]; omega), splice_length (by rw [hBl, hml]; omega), hBl]; rfl) (by rw [ins_flen hsz hy, ins_flat hsz]; exact ins_shift (X := xs.flatten) (sp := sp.map AV.c) (a := i * 5) (m := 5) (by omega) hy (by rw [hBl]; omega)) rfl ?_
      refine J.region_lit ?_
      refine JL.q rfl rfl rfl (QW.move (.tmp rfl)) ?_
      refine JL.q rfl rfl rfl (QW.assign (.tmp rfl)) ?_
      refine JL.nil ?_
      refine thenQ.n ?_
      refine J.ret ?_
      refine thenQ.r ?_
      exact ⟨_, selP [.p] _, _, RetEv.one rfl (REv.tmp rfl (.refl _)), rfl, sel_perm [.p] _, ⟨_, rfl, _, rfl, rfl, rfl⟩⟩
end Go.Proofs.Ytkiankpmkglhcaa.J

/- Walks: the queue and the page's queue. -/
namespace Go.Proofs.Ytkiankpmkglhcaa.J
open Go Go.RowKit
set_option linter.unusedVariables false
set_option linter.unusedSimpArgs false
set_option maxRecDepth 10000
set_option maxHeartbeats 4000000
theorem EvT.wfs.snoc {l : List EvT} {e : EvT} (h : EvT.wfs l) (he : e.wf) (hl : l.length ≤ 64) : EvT.wfs (l ++ [e]) := ⟨by simp; unfold reach; omega, fun x hx => by
  rcases List.mem_append.1 hx with hx | hx
  · exact h.2 x hx
  · simp only [List.mem_singleton] at hx; subst hx; exact he⟩
end Go.Proofs.Ytkiankpmkglhcaa.J

/- Walks: pushing and taking, by the program and by the page. -/
namespace Go.Proofs.Ytkiankpmkglhcaa.J
open Go Go.RowKit
set_option linter.unusedVariables false
set_option linter.unusedSimpArgs false
set_option maxRecDepth 10000
set_option maxHeartbeats 4000000
end Go.Proofs.Ytkiankpmkglhcaa.J

/- Walks: items: copies of their own; boxes: may one be, copies of their own, two alike. -/
namespace Go.Proofs.Ytkiankpmkglhcaa.J
open Go Go.RowKit
set_option linter.unusedVariables false
set_option linter.unusedSimpArgs false
set_option maxRecDepth 10000
set_option maxHeartbeats 4000000
end Go.Proofs.Ytkiankpmkglhcaa.J

/- Walks: may a box be, by the program and by the page; the program's copy. -/
namespace Go.Proofs.Ytkiankpmkglhcaa.J
open Go Go.RowKit
set_option linter.unusedVariables false
set_option linter.unusedSimpArgs false
set_option maxRecDepth 10000
set_option maxHeartbeats 4000000
end Go.Proofs.Ytkiankpmkglhcaa.J

/- Walks: the program's copy of a box. -/
namespace Go.Proofs.Ytkiankpmkglhcaa.J
open Go Go.RowKit
set_option linter.unusedVariables false
set_option linter.unusedSimpArgs false
set_option maxRecDepth 10000
set_option maxHeartbeats 4000000
end Go.Proofs.Ytkiankpmkglhcaa.J

/- Fields of structs that are values, elements of arrays that are values. -/
namespace Go.Proofs.Ytkiankpmkglhcaa.J
open Go Go.RowKit
set_option linter.unusedVariables false
set_option linter.unusedSimpArgs false
section
variable {P : Program} {E : Ent} {st : St} {t t' et ty : TypeId} {pos : String} {af : Array Edge} {dd : Option Tmp} {gd : Option (Nat × Bool)} {x y : Operand} {w : World} {n B : Nat}
theorem run_partA {cs : Array Value} {off : Nat} (hT : tySz P t' = some (true, n, B)) : (part t' cs off).run P w = .ok (.agg (cs.extract off (off + n))) w := by
  simp only [part, Sem.run_bind, run_isAgg hT, Result.andThen_ok, if_true, run_sizeOf hT, Sem.run_pure]
theorem Rd.part {A : Foot} {vs : Array Value} {ys : List AV} {off : Nat} (hn : vs.size = ys.length) (h : Cells w A vs 0 ys) (hle : off + n ≤ ys.length) : Rd w A (.agg (vs.extract off (off + n))) (.agg ((ys.drop off).take n)) := by
  refine .mk_agg (by simp; omega) fun k y hk => ?_
  rw [List.getElem?_take] at hk
  split at hk
  · rename_i hlt
    rw [List.getElem?_drop] at hk
    obtain ⟨u, h1, h0, h2⟩ := h _ y hk
    rw [Nat.zero_add] at h1 ⊢
    exact ⟨u, by rw [Array.getElem?_extract, if_pos (by omega)]; exact h1, h0, h2⟩
  · cases hk
/-- An element of an array's value. -/
theorem QW.indexA {ys zs : List AV} {ln m : Nat} {k : IntKind} {i : Int} (hU : P.underlying t = some (.array ln et)) (hT : tySz P et = some (true, n, B)) (h : Ev E st x (.agg ys)) (hi : Ev E st y (.c (.int k i))) (him : i = (m : Int)) (hm : m < ln) (hz : (ys.drop (m * n)).take n = zs) (hl : zs.length = n) (h0 : Nat.blt 0 n = true := by rfl) :
    QW P E st ⟨dd, .index t x y, ty, pos, af, gd⟩ (.agg zs) := .pure fun A a w hs => by
  obtain ⟨vs, hv, hn, hc⟩ := (h A a w hs).of_agg
  subst him hz
  have hlt : (m : Int) < (ln : Int) := by omega
  have hp := blt_lt h0
  refine ⟨_, by simp [execOp, Instr.index, asIntOf, asInt, hi.eq hs, run_underlying _ hU, hv, run_sizeOf hT, run_partA hT, hm], Rd.part hn hc ?_⟩
  rw [List.length_take, List.length_drop] at hl; omega
end
/-! ### appends onto a slice that is read alone and has no spare places, or onto an own array -/
section
variable {P : Program} {E : Ent} {Q : Exit → St → Prop} {n : Nat} {env : List (Nat × AV)} {own : List Own} {F : List (Value × AV)} {D : List Deferred} {ops : Array Oper} {rest : List Oper} {c : Code}
variable {A : Foot} {a : Act} {w w' : World} {t tx et ty : TypeId} {pos : String} {af : Array Edge} {d : Nat} {dd : Option Tmp} {gd : Option (Nat × Bool)} {s x : Operand}
end
section
variable {P : Program} {E : Ent} {st : St} {ty : TypeId} {pos : String} {af : Array Edge} {dd : Option Tmp} {gd : Option (Nat × Bool)} {x y z : Operand}
end
end Go.Proofs.Ytkiankpmkglhcaa.J

/- Walks: the first that wait; an event's effects. -/
namespace Go.Proofs.Ytkiankpmkglhcaa.J
open Go Go.RowKit
set_option linter.unusedVariables false
set_option linter.unusedSimpArgs false
set_option maxRecDepth 10000
set_option maxHeartbeats 4000000
theorem BT.wf.take {la : Int} {l : List ItT} (h : (BT.mk la l).wf) (k : Nat) : (BT.mk la (l.take k)).wf := ⟨h.l1, h.it.take k⟩
end Go.Proofs.Ytkiankpmkglhcaa.J

/- Walks: an event's effects, by the program and by the page. -/
namespace Go.Proofs.Ytkiankpmkglhcaa.J
open Go Go.RowKit
set_option linter.unusedVariables false
set_option linter.unusedSimpArgs false
set_option maxRecDepth 10000
set_option maxHeartbeats 4000000
end Go.Proofs.Ytkiankpmkglhcaa.J

/- Walks: binary search among items; an acknowledgement. -/
namespace Go.Proofs.Ytkiankpmkglhcaa.J
open Go Go.RowKit
set_option linter.unusedVariables false
set_option linter.unusedSimpArgs false
set_option maxRecDepth 10000
set_option maxHeartbeats 4000000
theorem fdiv2 {lo hi : Nat} : ((lo : Int) + (hi : Int)).fdiv (2 ^ (min (1 : Int).toNat IntKind.u64.bits)) = (((lo + hi) / 2 : Nat) : Int) := by
  rw [show (2 : Int) ^ (min (1 : Int).toNat IntKind.u64.bits) = 2 from rfl, Int.fdiv_eq_ediv_of_nonneg _ (by decide)]
  omega
end Go.Proofs.Ytkiankpmkglhcaa.J

/- Where two ways meet: what holds of both is told, and the rest is walked once. -/
namespace Go.Proofs.Ytkiankpmkglhcaa.J
open Go Go.RowKit
section
variable {P : Program} {E : Ent} {Q : Exit → St → Prop} {n : Nat} {env : List (Nat × AV)} {own : List Own} {F : List (Value × AV)} {D : List Deferred}
theorem J.cutK {ι : Type} {x y : Code} (ks : List Nat) (ch : ι → List (Nat × AV)) (ow : ι → List Own → List Own) (p : ι → Prop)
    (h : J P E x ⟨n, env, own, F, D⟩ (thenQ (fun s => ∃ j, p j ∧ Wk s ⟨n, ch j ++ pickEnv ks env, ow j own, F, D⟩) Q))
    (k : ∀ i, p i → J P E y ⟨n, ch i ++ pickEnv ks env, ow i own, F, D⟩ Q) : J P E (.seq x y) ⟨n, env, own, F, D⟩ Q :=
  J.seq (h.mono fun e s hq => by
    cases e <;> first | exact hq | skip
    obtain ⟨j, hj, hw⟩ := hq
    exact J.weak hw (k j hj))
end
section
variable {P : Program} {E : Ent} {st : St} {t ty : TypeId} {pos : String} {af : Array Edge} {dd : Option Tmp} {gd : Option (Nat × Bool)}
/-- An array's literal. -/
theorem QW.buildA {sz : Nat} {zc : List Value} {idx : List Nat} {l : List Operand} {zs ys : List AV} {parts : Array (Nat × Operand)} (hP : arrOf P t = some sz) (hz : zeroCells P t = some zc) (hz1 : zc.all (·.oneCell') = true)
    (hl : EvL E st l zs) (hparts : parts = (idx.zip l).toArray) (hp : zs.all AV.plain = true) (hi : idx.length = l.length) (hf : fillA (fun i => some (i * sz, sz)) (zc.map AV.c) (idx.zip (zs.map AV.cellsOf)) = some ys) :
    QW P E st ⟨dd, .build t parts, ty, pos, af, gd⟩ (.agg ys) := .pure fun A a w hs => by
  obtain ⟨ti, zv, h1, h2, h3⟩ := zero_get hz
  obtain ⟨cs', r1, r2, r3⟩ := run_fill (fun i => some (i * sz, sz)) (PartsR.of hs hl hp hi) (cs := zv.cells) (ys := zc.map AV.c) (by rw [← Array.length_toList, h3, List.length_map]) (by
    have := Cells.const (w := w) (A := A) hz1
    rw [← h3] at this ⊢
    rwa [Array.toArray_toList] at this) hf
  refine ⟨.agg cs', ?_, .mk_agg r2 r3⟩
  have hb : P.built t ((parts.map fun (i, x) => (i, a.eval x)).toList) = some cs' := by
    unfold Program.built
    unfold arrOf at hP
    cases hu : P.underlying t with
    | none => simp [hu] at hP
    | some td =>
      cases td <;> try (simp [hu] at hP; done)
      simp only [hu] at hP
      rw [Option.map_eq_some_iff] at hP
      obtain ⟨i2, g1, rfl⟩ := hP
      simp only [h1, h2, g1]
      rw [← r1, hparts]
      simp
  simp only [execOp, Sem.run_bind, run_build w t _ _ hb, Result.andThen_ok, Sem.run_pure]
/-- Two in one. -/
theorem fill_two {z0 z1 a b : List AV} {m : Nat} (h0 : z0.length = m) (h1 : z1.length = m) (ha : a.length = m) (hb : b.length = m) : fillA (fun i => some (i * m, m)) (z0 ++ z1) [(0, a), (1, b)] = some (a ++ b) := by
  have e1 : splice (z0 ++ z1) 0 a = a ++ z1 := by
    unfold splice
    rw [List.take_zero, List.nil_append, Nat.zero_add, ha, ← h0, List.drop_left]
  have e2 : splice (a ++ z1) m b = a ++ b := by
    unfold splice
    rw [← ha, List.take_left, List.drop_eq_nil_of_le (by simp; omega), List.append_nil]
  have b1 : Nat.ble m (m + m) = true := Nat.ble_eq_true_of_le (by omega)
  have b2 : Nat.ble (m + m) (m + m) = true := Nat.ble_eq_true_of_le (by omega)
  simp [fillA, ha, hb, h0, h1, e1, e2, b1, b2]
end
end Go.Proofs.Ytkiankpmkglhcaa.J

/- Walks: steps into values: what is found, what is got. -/
namespace Go.Proofs.Ytkiankpmkglhcaa.J
open Go Go.RowKit
set_option linter.unusedVariables false
set_option linter.unusedSimpArgs false
set_option maxRecDepth 10000
set_option maxHeartbeats 4000000
theorem nanStr_ok (s : Str) : Fn Try.prog 133 [.c (str s)] (.c (.bool false)) := by
  refine AC.of_J Try.func133 rfl Try.ntmps133 rfl fun w0 A0 => ?_
  refine J.seq ?_
  refine J.region_lit ?_
  refine JL.q rfl rfl rfl (QW.assign .const) ?_
  refine JL.nil ?_
  refine thenQ.n ?_
  refine J.seq ?_
  refine J.region_lit ?_
  refine JL.q rfl rfl rfl (QW.move (.tmp rfl)) ?_
  refine JL.q rfl rfl rfl (QW.move (.tmp rfl)) ?_
  refine JL.q rfl rfl rfl (QW.neq_s (.tmp rfl) (.tmp rfl)) ?_
  refine JL.q rfl rfl rfl (QW.assign (.tmp rfl)) ?_
  refine JL.nil ?_
  refine thenQ.n ?_
  refine J.ret ?_
  exact ⟨_, selP [] _, _, RetEv.one rfl (REv.tmp rfl (.refl _)), rfl, sel_perm [] _, ⟨ret_b (by simp), rfl⟩⟩
theorem cnanStr_ok (s : Str) : Fn Try.prog 140 [.c (str s)] (.c (.bool false)) := by
  refine AC.of_J Try.func140 rfl Try.ntmps140 rfl fun w0 A0 => ?_
  refine J.seq ?_
  refine J.region_lit ?_
  refine JL.q rfl rfl rfl (QW.assign .const) ?_
  refine JL.nil ?_
  refine thenQ.n ?_
  refine J.seq ?_
  refine J.region_lit ?_
  refine JL.q rfl rfl rfl (QW.move (.tmp rfl)) ?_
  refine JL.q rfl rfl rfl (QW.move (.tmp rfl)) ?_
  refine JL.q rfl rfl rfl (QW.neq_s (.tmp rfl) (.tmp rfl)) ?_
  refine JL.q rfl rfl rfl (QW.assign (.tmp rfl)) ?_
  refine JL.nil ?_
  refine thenQ.n ?_
  refine J.ret ?_
  exact ⟨_, selP [] _, _, RetEv.one rfl (REv.tmp rfl (.refl _)), rfl, sel_perm [] _, ⟨ret_b (by simp), rfl⟩⟩
theorem lessStr_ok (a b : Str) : Fn Try.prog 132 [.c (str a), .c (str b)] (.c (.bool (Op.bytesLess a b))) := by
  refine AC.of_J Try.func132 rfl Try.ntmps132 rfl fun w0 A0 => ?_
  refine J.seq ?_
  refine J.region_lit ?_
  refine JL.q rfl rfl rfl (QW.assign .const) ?_
  refine JL.nil ?_
  refine thenQ.n ?_
  refine J.seq ?_
  refine J.region_lit ?_
  refine JL.q rfl rfl rfl (QW.move (.tmp rfl)) ?_
  refine JL.q rfl rfl rfl (QW.call gofn140 (.cons (.tmp rfl) .nil) (cnanStr_ok _)) ?_
  refine JL.q rfl rfl rfl (QW.move (.tmp rfl)) ?_
  refine JL.g rfl rfl rfl rfl rfl (fun hg => (QW.move (.tmp rfl))) ?_
  refine JL.g rfl rfl rfl rfl rfl (fun hg => (QW.call gofn140 (.cons (.when rfl hg) .nil) (cnanStr_ok _))) ?_
  refine JL.g rfl rfl rfl rfl rfl (fun hg => (QW.not (.when rfl hg))) ?_
  refine JL.q rfl rfl rfl (QW.pick_and (.tmp rfl) (.tmp rfl)) ?_
  refine JL.q rfl rfl rfl (QW.move (.tmp rfl)) ?_
  refine JL.g rfl rfl rfl rfl rfl (fun hg => (QW.move (.tmp rfl))) ?_
  refine JL.g rfl rfl rfl rfl rfl (fun hg => (QW.move (.tmp rfl))) ?_
  refine JL.g rfl rfl rfl rfl rfl (fun hg => (QW.lss_s (.when rfl hg) (.when rfl hg))) ?_
  refine JL.q rfl rfl rfl (QW.pick_or (.tmp rfl) (.tmp rfl)) ?_
  refine JL.q rfl rfl rfl (QW.assign (.tmp rfl)) ?_
  refine JL.nil ?_
  refine thenQ.n ?_
  refine J.ret ?_
  exact ⟨_, selP [] _, _, RetEv.one rfl (REv.tmp rfl (.refl _)), rfl, sel_perm [] _, ⟨ret_b (by simp), rfl⟩⟩
theorem foundStr {l : List Str} {k : Nat} {s : Str} : (decide (l[k]? = some s)) = (decide ((k : Int) < (l.length : Int)) && ((l.getD k []) == s || false && false)) := by
  by_cases hk : k < l.length
  · rw [Bool.eq_iff_iff]; simp [hk, List.getD]
  · rw [Bool.eq_iff_iff]; simp [hk]
theorem bs_ok {fr c : Bool} {l : List Str} {s : Str} {k : Nat} (hl : l.length ≤ 1000) (hk : k ≤ l.length) (h1 : ∀ i (h : i < l.length), i < k → Op.bytesLess l[i] s = true) (h2 : ∀ i (h : i < l.length), k ≤ i → Op.bytesLess l[i] s = false) : Fn Try.prog 107 [.sl fr c eStr (keysAV l), .c (str s)] (.tup [.c (.int .i64 (k : Int)), .c (.bool (decide (l[k]? = some s)))]) := by
  refine AC.of_J Try.func107 rfl Try.ntmps107 rfl fun w0 A0 => ?_
  refine J.seq ?_
  refine J.region_lit ?_
  refine JL.q rfl rfl rfl (QW.assign .const) ?_
  refine JL.q rfl rfl rfl (QW.assign .const) ?_
  refine JL.nil ?_
  refine thenQ.n ?_
  refine J.seq ?_
  refine J.region_lit ?_
  refine JL.q rfl rfl rfl (QW.move (.tmp rfl)) ?_
  refine JL.q rfl rfl rfl (by first | exact QW.len_slE sl23 (.tmp rfl) (keysAV_length _) | exact QW.len_slE sl23 (.tmp rfl) (V.css_length _ _) | exact QW.len_slE sl23 (.tmp rfl) (StT.css_length _) | exact QW.len_sl sl23 (.tmp rfl) | exact QW.len_nil sl23 (.tmp rfl)) ?_
  refine JL.q rfl rfl rfl (QW.assign (.tmp rfl)) ?_
  refine JL.nil ?_
  refine thenQ.n ?_
  refine J.seq ?_
  refine J.region_lit ?_
  refine JL.q rfl rfl rfl (QW.move (.tmp rfl)) ?_
  refine JL.q rfl rfl rfl (QW.assign .const) ?_
  refine JL.q rfl rfl rfl (QW.assign (.tmp rfl)) ?_
  refine JL.nil ?_
  refine thenQ.n ?_
  refine J.seq ?_
  refine J.block ?_
  refine J.loopK (ι := Nat × Nat) [0, 1, 4, 5, 6] (fun ⟨lo, hi⟩ => [(7, .c (.int .i64 (lo : Int))), (8, .c (.int .i64 (hi : Int)))]) (fun _ oo => oo) (fun ⟨lo, hi⟩ => lo ≤ k ∧ k ≤ hi ∧ hi ≤ l.length) (fun ⟨lo, hi⟩ => hi - lo) ⟨0, l.length⟩ (⟨Nat.zero_le _, hk, Nat.le_refl _⟩) (Wk.re (.cons rfl (.refl _) (.cons rfl (.refl _) (.cons rfl (.refl _) (.cons rfl (.refl _) (.cons rfl (.refl _) (.cons rfl (.refl _) (.cons rfl (.refl _) .nil))))))) (Reown.refl _) (fun _ h => by first | exact h | simp [h])) ?_
  intro ⟨lo, hi⟩ ⟨ha, hb, hc⟩
  refine J.conv (by (try simp only [id_eq, stepsO, List.map_cons, List.map_nil, valO, nthO, curO, mrg, List.reverse_cons, List.reverse_nil, List.nil_append, List.cons_append, List.append_nil, List.getElem?_cons_zero, List.getElem?_cons_succ, Option.map_some, Option.getD_some, List.set_cons_zero, List.set_cons_succ, AV.cellsOf, splice_zero, splice_succ, Nat.zero_add, Nat.reduceAdd]); rfl) ?_
  refine J.seq ?_
  refine J.seq ?_
  refine J.region_lit ?_
  refine JL.q rfl rfl rfl (QW.move (.tmp rfl)) ?_
  refine JL.q rfl rfl rfl (QW.move (.tmp rfl)) ?_
  refine JL.q rfl rfl rfl (QW.lss (.tmp rfl) (.tmp rfl)) ?_
  refine JL.nil ?_
  refine thenQ.n ?_
  refine J.cond (.tmp rfl) (fun c1 => ?_) (fun c1 => ?_)
  · skip
    have hlt : lo < hi := by simpa using c1
    refine J.skip ?_
    refine thenQ.n ?_
    refine J.block ?_
    refine J.seq ?_
    refine J.region_lit ?_
    refine JL.q rfl rfl rfl (QW.move (.tmp rfl)) ?_
    refine JL.q rfl rfl rfl (QW.move (.tmp rfl)) ?_
    refine JL.q rfl rfl rfl (QW.add (.tmp rfl) (.tmp rfl) (by first | exact w64n (by first | rfl | omega | (simp; done)) (by omega) | exact w64 (by omega) | rfl)) ?_
    refine JL.q rfl rfl rfl (QW.conv_int us3 iu170 (.tmp rfl) (by first | exact wu64 (by omega) | rfl)) ?_
    refine JL.q rfl rfl rfl (QW.shr (.tmp rfl) .const (by decide) fdiv2) ?_
    refine JL.q rfl rfl rfl (QW.conv_int us170 iu3 (.tmp rfl) (by first | exact w64n (by first | rfl | omega | (simp; done)) (by omega) | exact w64 (by omega) | rfl)) ?_
    refine JL.q rfl rfl rfl (QW.assign (.tmp rfl)) ?_
    refine JL.nil ?_
    refine thenQ.n ?_
    refine J.seq ?_
    refine J.region_lit ?_
    refine JL.q rfl rfl rfl (QW.move (.tmp rfl)) ?_
    refine JL.q rfl rfl rfl (QW.move (.tmp rfl)) ?_
    refine JL.q rfl rfl rfl (QW.index_sl sl23 ty9 rfl (.tmp rfl) (.tmp rfl) (by first | rfl | omega | (simp; done)) (by exact keysAV_getE (ks := l) (i := (lo + hi) / 2) (by omega))) ?_
    refine JL.q rfl rfl rfl (QW.load_ref1 ty9 (.tmp rfl) rfl) ?_
    refine JL.q rfl rfl rfl (QW.move (.tmp rfl)) ?_
    refine JL.q rfl rfl rfl (QW.call gofn132 (.cons (.tmp rfl) (.cons (.tmp rfl) .nil)) (lessStr_ok _ _)) ?_
    refine JL.nil ?_
    refine thenQ.n ?_
    refine J.cond (.tmp rfl) (fun c2 => ?_) (fun c2 => ?_)
    · skip
      have hm : Op.bytesLess (l[(lo + hi) / 2]'(by omega)) s = true := c2
      refine J.region_lit ?_
      refine JL.q rfl rfl rfl (QW.move (.tmp rfl)) ?_
      refine JL.q rfl rfl rfl (QW.add (.tmp rfl) .const (by first | exact w64n (by first | rfl | omega | (simp; done)) (by omega) | exact w64 (by omega) | rfl)) ?_
      refine JL.q rfl rfl rfl (QW.assign (.tmp rfl)) ?_
      refine JL.nil ?_
      refine blkQ.n ?_
      refine thenQ.n ?_
      exact ⟨⟨(lo + hi) / 2 + 1, hi⟩, ⟨Nat.lt_of_not_le fun h => absurd (h2 _ (by omega) h) (by rw [hm]; decide), hb, hc⟩, by show hi - ((lo + hi) / 2 + 1) < hi - lo; omega, Wk.re (.cons rfl (.refl _) (.cons rfl (.refl _) (.cons rfl (.refl _) (.cons rfl (.refl _) (.cons rfl (.refl _) (.cons rfl (.refl _) (.cons rfl (.refl _) .nil))))))) (Reown.refl _) (fun _ h => by first | exact h | simp [h])⟩
    · skip
      have hm : Op.bytesLess (l[(lo + hi) / 2]'(by omega)) s = false := c2
      refine J.region_lit ?_
      refine JL.q rfl rfl rfl (QW.move (.tmp rfl)) ?_
      refine JL.q rfl rfl rfl (QW.assign (.tmp rfl)) ?_
      refine JL.nil ?_
      refine blkQ.n ?_
      refine thenQ.n ?_
      exact ⟨⟨lo, (lo + hi) / 2⟩, ⟨ha, Nat.le_of_not_lt fun h => absurd (h1 _ (by omega) h) (by rw [hm]; decide), by omega⟩, by show (lo + hi) / 2 - lo < hi - lo; omega, Wk.re (.cons rfl (.refl _) (.cons rfl (.refl _) (.cons rfl (.refl _) (.cons rfl (.refl _) (.cons rfl (.refl _) (.cons rfl (.refl _) (.cons rfl (.refl _) .nil))))))) (Reown.refl _) (fun _ h => by first | exact h | simp [h])⟩
  · skip
    have hge : hi ≤ lo := by simpa using c1
    refine J.exit ?_
    refine thenQ.x ?_
    refine thenQ.x ?_
    refine blkQ.hit ?_
    refine thenQ.n ?_
    refine J.seq ?_
    refine J.region_lit ?_
    refine JL.q rfl rfl rfl (QW.move (.tmp rfl)) ?_
    refine JL.q rfl rfl rfl (QW.move (.tmp rfl)) ?_
    refine JL.q rfl rfl rfl (QW.move (.tmp rfl)) ?_
    refine JL.q rfl rfl rfl (QW.lss (.tmp rfl) (.tmp rfl)) ?_
    refine JL.q rfl rfl rfl (QW.move (.tmp rfl)) ?_
    refine JL.g rfl rfl rfl rfl rfl (fun hg => (QW.move (.tmp rfl))) ?_
    refine JL.g rfl rfl rfl rfl rfl (fun hg => (QW.move (.tmp rfl))) ?_
    refine JL.g rfl rfl rfl rfl rfl (fun hg => (QW.index_sl sl23 ty9 rfl (.when rfl hg) (.when rfl hg) (by first | rfl | omega | (simp; done)) (by exact keysAV_getD (by simp at hg; omega)))) ?_
    refine JL.g rfl rfl rfl rfl rfl (fun hg => (QW.load_ref1 ty9 (.when rfl hg) rfl)) ?_
    refine JL.g rfl rfl rfl rfl rfl (fun hg => (QW.move (.tmp rfl))) ?_
    refine JL.g rfl rfl rfl rfl rfl (fun hg => (QW.eql_s (.when rfl hg) (.when rfl hg))) ?_
    refine JL.g rfl rfl rfl rfl rfl (fun hg => (QW.move (.when rfl hg))) ?_
    refine JL.gg rfl rfl rfl rfl rfl (fun hg => (QW.move (.tmp rfl))) ?_
    refine JL.gg rfl rfl rfl rfl rfl (fun hg => (QW.move (.tmp rfl))) ?_
    refine JL.gg rfl rfl rfl rfl rfl (fun hg => (QW.index_sl sl23 ty9 rfl (.when rfl hg) (.when rfl hg) (by first | rfl | omega | (simp; done)) (by exact keysAV_getD (by simp at hg; omega)))) ?_
    refine JL.gg rfl rfl rfl rfl rfl (fun hg => (QW.load_ref1 ty9 (.when rfl hg) rfl)) ?_
    refine JL.gg rfl rfl rfl rfl rfl (fun hg => (QW.call gofn133 (.cons (.when rfl hg) .nil) (nanStr_ok _))) ?_
    refine JL.gg rfl rfl rfl rfl rfl (fun hg => (QW.move (.when rfl hg))) ?_
    refine JL.gg rfl rfl rfl rfl rfl (fun hg => (QW.move (.tmp rfl))) ?_
    refine JL.gg rfl rfl rfl rfl rfl (fun hg => (QW.call gofn133 (.cons (.when rfl hg) .nil) (nanStr_ok _))) ?_
    refine JL.gg rfl rfl rfl rfl rfl (fun hg => (by first | exact QW.pick_and (.when rfl hg) (.tmp rfl) | exact QW.pick_and2 hg (.when rfl hg) (.tmp rfl))) ?_
    refine JL.g rfl rfl rfl rfl rfl (fun hg => (by first | exact QW.pick_or (.when rfl hg) (.tmp rfl) | exact QW.pick_or2 hg (.when rfl hg) (.tmp rfl))) ?_
    refine JL.q rfl rfl rfl (QW.pick_and (.tmp rfl) (.tmp rfl)) ?_
    refine JL.q rfl rfl rfl (QW.assign (.tmp rfl)) ?_
    refine JL.q rfl rfl rfl (QW.assign (.tmp rfl)) ?_
    refine JL.nil ?_
    refine thenQ.n ?_
    refine J.ret ?_
    obtain rfl : lo = k := by omega
    exact ⟨_, selP [] _, _, RetEv.two rfl (REv.tmp rfl (.refl _)) (REv.tmp rfl (.refl _)), rfl, sel_perm [] _, ⟨by rw [foundStr], rfl⟩⟩
def fndAV (v : V) (s : StT) : AV := .tup [.c (.int .i64 ((v.fnd s).1 : Int)), .c (.int .i64 (v.fnd s).2)]
theorem fndAV_of {v : V} {s : StT} {i : Nat} {e : Int} (h : v.fnd s = (i, e)) : fndAV v s = .tup [.c (.int .i64 (i : Int)), .c (.int .i64 e)] := by rw [fndAV, h]
theorem find_ok {fr : Bool} {v : V} {s : StT} {ys zs : List AV} (hv : Vc fr v ys) (hs : Sc s zs) (hp : partOk v = true) (hsw : s.wf) : Fn Try.prog 76 [.agg ys, .agg zs] (fndAV v s) := by
  obtain ⟨k, b, t, ks, is⟩ := v
  subst hv
  obtain ⟨sk, key, ix⟩ := s
  subst hs
  obtain ⟨l1, l2⟩ := partOk_len hp
  have hsi := hsw.i
  simp only [V.items, V.keys] at l1 l2 hsi
  refine AC.of_J Try.func76 rfl Try.ntmps76 rfl fun w0 A0 => ?_
  refine J.seq ?_
  refine J.region_lit ?_
  refine JL.box_agg (.tmp rfl) rfl fun b2 => ?_
  refine JL.box_agg (.tmp rfl) rfl fun b3 => ?_
  refine JL.q rfl rfl rfl (QW.assign .const) ?_
  refine JL.q rfl rfl rfl (QW.assign .const) ?_
  refine JL.nil ?_
  refine thenQ.n ?_
  refine J.seq ?_
  refine J.block ?_
  refine J.seq ?_
  refine J.seq ?_
  refine J.region_lit ?_
  refine JL.q rfl rfl rfl (QW.field_ptr fo48_0 (.tmp rfl) rfl) ?_
  refine JL.q rfl rfl rfl (QW.load_box1 0 ty4 (.tmp rfl) rfl rfl) ?_
  refine JL.q rfl rfl rfl (QW.move (.tmp rfl)) ?_
  refine JL.g rfl rfl rfl rfl rfl (fun hg => (QW.field_ptr fo26_0 (.tmp rfl) rfl)) ?_
  refine JL.g rfl rfl rfl rfl rfl (fun hg => (QW.load_box1 1 ty3 (.when rfl hg) rfl rfl)) ?_
  refine JL.g rfl rfl rfl rfl rfl (fun hg => (QW.neq (.when rfl hg) .const)) ?_
  refine JL.q rfl rfl rfl (QW.pick_and (.tmp rfl) (.tmp rfl)) ?_
  refine JL.q rfl rfl rfl (QW.assign (.tmp rfl)) ?_
  refine JL.nil ?_
  refine thenQ.n ?_
  refine J.cond (.tmp rfl) (fun c1 => ?_) (fun c1 => ?_)
  · skip
    skip
    refine J.skip ?_
    refine thenQ.n ?_
    refine J.cond (.tmp rfl) (fun c2 => ?_) (fun c2 => absurd c2 (by rw [c1]; decide))
    refine J.seq ?_
    refine J.region_lit ?_
    refine JL.q rfl rfl rfl (QW.assign .const) ?_
    refine JL.q rfl rfl rfl (QW.assign .const) ?_
    refine JL.nil ?_
    refine thenQ.n ?_
    refine J.ret ?_
    refine blkQ.r ?_
    refine thenQ.r ?_
    exact ⟨_, selP [.k, .k] _, _, RetEv.two rfl (REv.tmp rfl (.refl _)) (REv.tmp rfl (.refl _)), rfl, sel_perm [.k, .k] _, ⟨congrArg Res.ret (fndAV_of (i := 0) (e := 81) (by simp at c1; obtain ⟨rfl, h5⟩ := c1; simp [V.fnd, V.kind, h5])).symm, rfl⟩⟩
  · skip
    skip
    refine J.region_lit ?_
    refine JL.q rfl rfl rfl (QW.field_ptr fo48_0 (.tmp rfl) rfl) ?_
    refine JL.q rfl rfl rfl (QW.load_box1 0 ty4 (.tmp rfl) rfl rfl) ?_
    refine JL.q rfl rfl rfl (QW.not (.tmp rfl)) ?_
    refine JL.q rfl rfl rfl (QW.move (.tmp rfl)) ?_
    refine JL.g rfl rfl rfl rfl rfl (fun hg => (QW.field_ptr fo26_0 (.tmp rfl) rfl)) ?_
    refine JL.g rfl rfl rfl rfl rfl (fun hg => (QW.load_box1 1 ty3 (.when rfl hg) rfl rfl)) ?_
    refine JL.g rfl rfl rfl rfl rfl (fun hg => (QW.neq (.when rfl hg) .const)) ?_
    refine JL.q rfl rfl rfl (QW.pick_and (.tmp rfl) (.tmp rfl)) ?_
    refine JL.q rfl rfl rfl (QW.assign (.tmp rfl)) ?_
    refine JL.nil ?_
    refine thenQ.n ?_
    refine J.cond (.tmp rfl) (fun c2 => ?_) (fun c2 => ?_)
    · skip
      skip
      refine J.seq ?_
      refine J.region_lit ?_
      refine JL.q rfl rfl rfl (QW.assign .const) ?_
      refine JL.q rfl rfl rfl (QW.assign .const) ?_
      refine JL.nil ?_
      refine thenQ.n ?_
      refine J.ret ?_
      refine blkQ.r ?_
      refine thenQ.r ?_
      exact ⟨_, selP [.k, .k] _, _, RetEv.two rfl (REv.tmp rfl (.refl _)) (REv.tmp rfl (.refl _)), rfl, sel_perm [.k, .k] _, ⟨congrArg Res.ret (fndAV_of (i := 0) (e := 81) (by simp at c1 c2; obtain ⟨rfl, h5⟩ := c2; simp [V.fnd, V.kind, h5])).symm, rfl⟩⟩
    · skip
      skip
      refine J.seq ?_
      refine J.region_lit ?_
      refine JL.q rfl rfl rfl (QW.field_ptr fo48_0 (.tmp rfl) rfl) ?_
      refine JL.q rfl rfl rfl (QW.load_box1 0 ty4 (.tmp rfl) rfl rfl) ?_
      refine JL.q rfl rfl rfl (QW.assign (.tmp rfl)) ?_
      refine JL.nil ?_
      refine thenQ.n ?_
      refine J.cond (.tmp rfl) (fun c3 => ?_) (fun c3 => ?_)
      · skip
        simp at c1 c2
        subst c3
        simp at c1
        subst c1
        have hsrt : Sorted ks := keysOk_sorted (partOk_rec hp rfl).2
        refine J.seq ?_
        refine J.region_lit ?_
        refine JL.q rfl rfl rfl (QW.field_ptr fo26_3 (.tmp rfl) rfl) ?_
        refine JL.q rfl rfl rfl (QW.load_box1 1 ty23 (.tmp rfl) rfl rfl) ?_
        refine JL.q rfl rfl rfl (QW.field_ptr fo48_1 (.tmp rfl) rfl) ?_
        refine JL.q rfl rfl rfl (QW.load_box1 0 ty9 (.tmp rfl) rfl rfl) ?_
        refine JL.q rfl rfl rfl (QW.call gofn107 (.cons (.tmp rfl) (.cons (.tmp rfl) .nil)) (bs_ok (k := low ks key) (by omega) (low_le _ _) (fun i h hi => low_lt h hi) (fun i h hi => low_ge hsrt h hi))) ?_
        refine JL.q rfl rfl rfl (QW.move (.tmp rfl)) ?_
        refine JL.q rfl rfl rfl (QW.extract (.tmp rfl) rfl) ?_
        refine JL.q rfl rfl rfl (QW.extract (.tmp rfl) rfl) ?_
        refine JL.q rfl rfl rfl (QW.assign (.tmp rfl)) ?_
        refine JL.q rfl rfl rfl (QW.assign (.tmp rfl)) ?_
        refine JL.nil ?_
        refine thenQ.n ?_
        refine J.seq ?_
        refine J.seq ?_
        refine J.region_lit ?_
        refine JL.q rfl rfl rfl (QW.move (.tmp rfl)) ?_
        refine JL.q rfl rfl rfl (QW.not (.tmp rfl)) ?_
        refine JL.nil ?_
        refine thenQ.n ?_
        refine J.cond (.tmp rfl) (fun c4 => ?_) (fun c4 => ?_)
        · skip
          skip
          refine J.seq ?_
          refine J.region_lit ?_
          refine JL.q rfl rfl rfl (QW.move (.tmp rfl)) ?_
          refine JL.q rfl rfl rfl (QW.assign (.tmp rfl)) ?_
          refine JL.q rfl rfl rfl (QW.assign .const) ?_
          refine JL.nil ?_
          refine thenQ.n ?_
          refine J.ret ?_
          refine thenQ.r ?_
          refine blkQ.r ?_
          refine thenQ.r ?_
          exact ⟨_, selP [.k, .k] _, _, RetEv.two rfl (REv.tmp rfl (.refl _)) (REv.tmp rfl (.refl _)), rfl, sel_perm [.k, .k] _, ⟨congrArg Res.ret (fndAV_of (i := low ks key) (e := 71) (by simp at c4; simp [V.fnd, V.kind, V.keys, c4])).symm, rfl⟩⟩
        · skip
          skip
          refine J.skip ?_
          refine thenQ.n ?_
          refine J.seq ?_
          refine J.region_lit ?_
          refine JL.q rfl rfl rfl (QW.move (.tmp rfl)) ?_
          refine JL.q rfl rfl rfl (QW.assign (.tmp rfl)) ?_
          refine JL.q rfl rfl rfl (QW.assign .const) ?_
          refine JL.nil ?_
          refine thenQ.n ?_
          refine J.ret ?_
          refine blkQ.r ?_
          refine thenQ.r ?_
          exact ⟨_, selP [.k, .k] _, _, RetEv.two rfl (REv.tmp rfl (.refl _)) (REv.tmp rfl (.refl _)), rfl, sel_perm [.k, .k] _, ⟨congrArg Res.ret (fndAV_of (i := low ks key) (e := 0) (by simp at c4; simp [V.fnd, V.kind, V.keys, c4])).symm, rfl⟩⟩
      · skip
        simp at c1 c2
        subst c3
        simp at c2
        subst c2
        refine J.seq ?_
        refine J.region_lit ?_
        refine JL.q rfl rfl rfl (QW.field_ptr fo48_2 (.tmp rfl) rfl) ?_
        refine JL.q rfl rfl rfl (QW.load_box1 0 ty3 (.tmp rfl) rfl rfl) ?_
        refine JL.q rfl rfl rfl (QW.lss (.tmp rfl) .const) ?_
        refine JL.q rfl rfl rfl (QW.move (.tmp rfl)) ?_
        refine JL.g rfl rfl rfl rfl rfl (fun hg => (QW.field_ptr fo48_2 (.tmp rfl) rfl)) ?_
        refine JL.g rfl rfl rfl rfl rfl (fun hg => (QW.load_box1 0 ty3 (.when rfl hg) rfl rfl)) ?_
        refine JL.g rfl rfl rfl rfl rfl (fun hg => (QW.field_ptr fo26_4 (.tmp rfl) rfl)) ?_
        refine JL.g rfl rfl rfl rfl rfl (fun hg => (QW.load_box1 1 ty24 (.when rfl hg) rfl rfl)) ?_
        refine JL.g rfl rfl rfl rfl rfl (fun hg => (by first | exact QW.len_slE sl24 (.when rfl hg) (keysAV_length _) | exact QW.len_slE sl24 (.when rfl hg) (V.css_length _ _) | exact QW.len_slE sl24 (.when rfl hg) (StT.css_length _) | exact QW.len_sl sl24 (.when rfl hg) | exact QW.len_nil sl24 (.when rfl hg))) ?_
        refine JL.g rfl rfl rfl rfl rfl (fun hg => (QW.geq (.when rfl hg) (.when rfl hg))) ?_
        refine JL.q rfl rfl rfl (QW.pick_or (.tmp rfl) (.tmp rfl)) ?_
        refine JL.q rfl rfl rfl (QW.assign (.tmp rfl)) ?_
        refine JL.nil ?_
        refine thenQ.n ?_
        refine J.cond (.tmp rfl) (fun c4 => ?_) (fun c4 => ?_)
        · skip
          skip
          refine J.seq ?_
          refine J.region_lit ?_
          refine JL.q rfl rfl rfl (QW.assign .const) ?_
          refine JL.q rfl rfl rfl (QW.assign .const) ?_
          refine JL.nil ?_
          refine thenQ.n ?_
          refine J.ret ?_
          refine blkQ.r ?_
          refine thenQ.r ?_
          exact ⟨_, selP [.k, .k] _, _, RetEv.two rfl (REv.tmp rfl (.refl _)) (REv.tmp rfl (.refl _)), rfl, sel_perm [.k, .k] _, ⟨congrArg Res.ret (fndAV_of (i := 0) (e := 82) (by unfold V.fnd; rw [if_neg (by simp), if_pos (show (V.mk 4 b t ks is).kind = 4 from rfl), if_pos (by simpa [V.items] using c4)])).symm, rfl⟩⟩
        · skip
          skip
          refine J.skip ?_
          refine blkQ.n ?_
          refine thenQ.n ?_
          refine J.seq ?_
          refine J.region_lit ?_
          refine JL.q rfl rfl rfl (QW.field_ptr fo48_2 (.tmp rfl) rfl) ?_
          refine JL.q rfl rfl rfl (QW.load_box1 0 ty3 (.tmp rfl) rfl rfl) ?_
          refine JL.q rfl rfl rfl (QW.assign (.tmp rfl)) ?_
          refine JL.q rfl rfl rfl (QW.assign .const) ?_
          refine JL.nil ?_
          refine thenQ.n ?_
          refine J.ret ?_
          simp at c4
          obtain ⟨m, rfl⟩ := Int.eq_ofNat_of_zero_le (a := ix) (by omega)
          exact ⟨_, selP [.k, .k] _, _, RetEv.two rfl (REv.tmp rfl (.refl _)) (REv.tmp rfl (.refl _)), rfl, sel_perm [.k, .k] _, ⟨congrArg Res.ret (fndAV_of (i := m) (e := 0) (by simp [V.fnd, V.kind, V.items]; omega)).symm, rfl⟩⟩
def getAV (v : V) (p : List StT) : AV := .tup [.agg ((v.getv p).1.cs true), .c (.int .i64 (v.getv p).2)]
theorem getAV_of {v u : V} {p : List StT} {e : Int} (h : v.getv p = (u, e)) : getAV v p = .tup [.agg (u.cs true), .c (.int .i64 e)] := by rw [getAV, h]
theorem V.cs_it (fr : Bool) (u : V) : (u.cs fr)[0 + 4]? = some (.sl fr false eV (V.css fr u.items)) := by cases u; rfl
theorem drop_at {α : Type} {l : List α} {j : Nat} (h : j < l.length) : l.drop j = l[j] :: l.drop (j + 1) := List.drop_eq_getElem_cons h
theorem get_ok {fr fr2 c2 : Bool} {v : V} {p : List StT} {ys : List AV} (hv : Vc fr v ys) (hw : v.wf) (hp : p.length * 32 ≤ reach ∧ ∀ s ∈ p, s.wf) : Fn Try.prog 28 [.agg ys, .sl fr2 c2 eSt (StT.css p)] (getAV v p) := by
  obtain ⟨hp80, hpw⟩ := hp
  have hpl : p.length ≤ 4398046511104 := by unfold reach at hp80; omega
  subst hv
  refine AC.of_J Try.func28 rfl Try.ntmps28 rfl fun w0 A0 => ?_
  refine J.seq ?_
  refine J.region_lit ?_
  refine JL.box_agg (.tmp rfl) rfl fun b2 => ?_
  refine JL.alloc z26 rfl rfl fun b4 => ?_
  refine JL.q rfl rfl rfl (QW.assign .const) ?_
  refine JL.nil ?_
  refine thenQ.n ?_
  refine J.seq ?_
  refine J.seq ?_
  refine J.region_lit ?_
  refine JL.q rfl rfl rfl (by first | exact QW.load_box 1 ty26 (.tmp rfl) rfl rfl rfl | exact QW.load_box 1 ty26 (.tmp rfl) rfl (take_at (V.cs_length _ _) rfl) (V.cs_length _ _)) ?_
  refine JL.q rfl rfl rfl (QW.call gofn24 (.cons (.tmp rfl) .nil) (check_ok Vc.self hw)) ?_
  refine JL.q rfl rfl rfl (QW.assign (.tmp rfl)) ?_
  refine JL.nil ?_
  refine thenQ.n ?_
  refine J.seq ?_
  refine J.region_lit ?_
  refine JL.q rfl rfl rfl (QW.move (.tmp rfl)) ?_
  refine JL.q rfl rfl rfl (QW.neq (.tmp rfl) .const) ?_
  refine JL.nil ?_
  refine thenQ.n ?_
  refine J.cond (.tmp rfl) (fun c1 => ?_) (fun c1 => ?_)
  · skip
    simp at c1
    refine J.seq ?_
    refine J.region_lit ?_
    refine JL.q rfl rfl rfl (QW.build (idx := []) pl26 z26 rfl .nil rfl rfl rfl rfl) ?_
    refine JL.q rfl rfl rfl (QW.move (.tmp rfl)) ?_
    first | refine JL.store_boxF 0 ty26 (.tmp rfl) rfl (.tmp rfl) (by first | rfl | assumption) (rfl) (rfl) rfl ?_ | refine JL.store_boxF 0 ty26 (.tmp rfl) rfl (.tmp rfl) (by first | rfl | assumption) (rfl) (V.cs_length _ _) rfl ?_ | refine JL.store_boxF 0 ty26 (.tmp rfl) rfl (.tmp rfl) (by first | rfl | assumption) (V.cs_length _ _) (rfl) rfl ?_ | refine JL.store_boxF 0 ty26 (.tmp rfl) rfl (.tmp rfl) (by first | rfl | assumption) (V.cs_length _ _) (V.cs_length _ _) rfl ?_ | refine JL.store_box 0 ty26 (.tmp rfl) rfl (.tmp rfl) (by first | rfl | assumption) rfl rfl rfl rfl ?_ | refine JL.store_box 0 ty26 (.tmp rfl) rfl (.tmp rfl) (by first | rfl | assumption) (V.cs_length _ _) rfl rfl rfl ?_
    refine JL.q rfl rfl rfl (QW.assign (.tmp rfl)) ?_
    refine JL.nil ?_
    refine thenQ.n ?_
    refine J.ret ?_
    refine thenQ.r ?_
    exact ⟨_, selP [.k, .k] _, _, RetEv.two rfl (by first | exact REv.cell 0 ty26 rfl rfl rfl rfl (.aggL (.cons (.refl _) (.cons (.refl _) (.cons (.refl _) (.cons (.nil true false _) (.cons (.nil true false _) .nil)))))) | exact REv.cell 0 ty26 rfl rfl (take_at (V.cs_length _ _) rfl) (V.cs_length _ _) (.aggL (.cons (.refl _) (.cons (.refl _) (.cons (.refl _) (.cons (.nil true false _) (.cons (.nil true false _) .nil))))))) (REv.tmp rfl (.refl _)), rfl, sel_perm [.k, .k] _, ⟨congrArg Res.ret (getAV_of (u := .nil) (e := v.err) (by rw [V.getv, if_pos c1])).symm, rfl⟩⟩
  · skip
    simp at c1
    have hfv := V.fine_of c1
    refine J.skip ?_
    refine thenQ.n ?_
    refine J.seq ?_
    refine J.seq ?_
    refine J.region_lit ?_
    refine JL.q rfl rfl rfl (QW.move (.tmp rfl)) ?_
    refine JL.q rfl rfl rfl (by first | exact QW.len_slE sl39 (.tmp rfl) (keysAV_length _) | exact QW.len_slE sl39 (.tmp rfl) (V.css_length _ _) | exact QW.len_slE sl39 (.tmp rfl) (StT.css_length _) | exact QW.len_sl sl39 (.tmp rfl) | exact QW.len_nil sl39 (.tmp rfl)) ?_
    refine JL.q rfl rfl rfl (QW.move .const) ?_
    refine JL.nil ?_
    refine thenQ.n ?_
    refine J.block ?_
    refine J.loopK (ι := Nat × V) [2, 4, 17, 18] (fun ⟨j, u⟩ => [(19, .c (.int .i64 (j : Int)))]) (fun ⟨j, u⟩ oo => List.set oo 1 (.box b2 (u.cs fr))) (fun ⟨j, u⟩ => j ≤ p.length ∧ u.Fine ∧ u.wf ∧ v.walk p = u.walk (p.drop j)) (fun ⟨j, u⟩ => p.length - j) ⟨0, v⟩ (⟨Nat.zero_le _, hfv, hw, rfl⟩) (Wk.re (.cons rfl (.refl _) (.cons rfl (.refl _) (.cons rfl (.refl _) (.cons rfl (.refl _) (.cons rfl (.refl _) .nil))))) (Reown.refl _) (fun _ h => by first | exact h | simp [h])) ?_
    intro ⟨j, u⟩ ⟨hj, hf, huw, hwk⟩
    refine J.conv (by (try simp only [id_eq, stepsO, List.map_cons, List.map_nil, valO, nthO, curO, mrg, List.reverse_cons, List.reverse_nil, List.nil_append, List.cons_append, List.append_nil, List.getElem?_cons_zero, List.getElem?_cons_succ, Option.map_some, Option.getD_some, List.set_cons_zero, List.set_cons_succ, AV.cellsOf, splice_zero, splice_succ, Nat.zero_add, Nat.reduceAdd]); rfl) ?_
    refine J.seq ?_
    refine J.region_lit ?_
    refine JL.q rfl rfl rfl (QW.lss (.tmp rfl) (.tmp rfl)) ?_
    refine JL.nil ?_
    refine thenQ.n ?_
    refine J.seq ?_
    refine J.cond (.tmp rfl) (fun c2 => ?_) (fun c2 => ?_)
    · skip
      have hlt : j < p.length := by simpa using c2
      refine J.skip ?_
      refine thenQ.n ?_
      refine J.seq ?_
      refine J.block ?_
      refine J.seq ?_
      refine J.region_lit ?_
      refine JL.q rfl rfl rfl (QW.index_sl sl39 ty48 rfl (.tmp rfl) (.tmp rfl) (by first | rfl | omega | (simp; done)) (by exact StT.css_getE hlt)) ?_
      refine JL.q rfl rfl rfl (by first | exact QW.load_ref ty48 (.tmp rfl) rfl rfl | exact QW.load_ref ty48 (.tmp rfl) (take_at0 (rfl) rfl) (rfl)) ?_
      refine JL.alloc z48 rfl rfl fun b8 => ?_
      first | refine JL.store_boxF 0 ty48 (.tmp rfl) rfl (.tmp rfl) (by first | rfl | assumption) (rfl) (rfl) rfl ?_ | refine JL.store_boxF 0 ty48 (.tmp rfl) rfl (.tmp rfl) (by first | rfl | assumption) (rfl) (rfl) rfl ?_ | refine JL.store_boxF 0 ty48 (.tmp rfl) rfl (.tmp rfl) (by first | rfl | assumption) (rfl) (rfl) rfl ?_ | refine JL.store_boxF 0 ty48 (.tmp rfl) rfl (.tmp rfl) (by first | rfl | assumption) (rfl) (rfl) rfl ?_ | refine JL.store_box 0 ty48 (.tmp rfl) rfl (.tmp rfl) (by first | rfl | assumption) rfl rfl rfl rfl ?_ | refine JL.store_box 0 ty48 (.tmp rfl) rfl (.tmp rfl) (by first | rfl | assumption) (rfl) rfl rfl rfl ?_
      refine JL.nil ?_
      refine thenQ.n ?_
      refine J.seq ?_
      refine J.region_lit ?_
      refine JL.q rfl rfl rfl (by first | exact QW.load_box 2 ty26 (.tmp rfl) rfl rfl rfl | exact QW.load_box 2 ty26 (.tmp rfl) rfl (take_at (V.cs_length _ _) rfl) (V.cs_length _ _)) ?_
      refine JL.q rfl rfl rfl (by first | exact QW.load_box 0 ty48 (.tmp rfl) rfl rfl rfl | exact QW.load_box 0 ty48 (.tmp rfl) rfl (take_at (rfl) rfl) (rfl)) ?_
      refine JL.q rfl rfl rfl (QW.call gofn76 (.cons (.tmp rfl) (.cons (.tmp rfl) .nil)) (find_ok Vc.self Sc.self hf.part (hpw _ (List.getElem_mem hlt)))) ?_
      refine JL.q rfl rfl rfl (QW.move (.tmp rfl)) ?_
      refine JL.q rfl rfl rfl (QW.extract (.tmp rfl) rfl) ?_
      refine JL.q rfl rfl rfl (QW.extract (.tmp rfl) rfl) ?_
      refine JL.q rfl rfl rfl (QW.assign (.tmp rfl)) ?_
      refine JL.q rfl rfl rfl (QW.assign (.tmp rfl)) ?_
      refine JL.nil ?_
      refine thenQ.n ?_
      refine J.seq ?_
      refine J.seq ?_
      refine J.region_lit ?_
      refine JL.q rfl rfl rfl (QW.move (.tmp rfl)) ?_
      refine JL.q rfl rfl rfl (QW.neq (.tmp rfl) .const) ?_
      refine JL.nil ?_
      refine thenQ.n ?_
      refine J.cond (.tmp rfl) (fun c3 => ?_) (fun c3 => ?_)
      · skip
        simp at c3
        refine J.seq ?_
        refine J.region_lit ?_
        refine JL.q rfl rfl rfl (QW.build (idx := []) pl26 z26 rfl .nil rfl rfl rfl rfl) ?_
        refine JL.q rfl rfl rfl (QW.move (.tmp rfl)) ?_
        first | refine JL.store_boxF 1 ty26 (.tmp rfl) rfl (.tmp rfl) (by first | rfl | assumption) (rfl) (rfl) rfl ?_ | refine JL.store_boxF 1 ty26 (.tmp rfl) rfl (.tmp rfl) (by first | rfl | assumption) (rfl) (V.cs_length _ _) rfl ?_ | refine JL.store_boxF 1 ty26 (.tmp rfl) rfl (.tmp rfl) (by first | rfl | assumption) (V.cs_length _ _) (rfl) rfl ?_ | refine JL.store_boxF 1 ty26 (.tmp rfl) rfl (.tmp rfl) (by first | rfl | assumption) (V.cs_length _ _) (V.cs_length _ _) rfl ?_ | refine JL.store_box 1 ty26 (.tmp rfl) rfl (.tmp rfl) (by first | rfl | assumption) rfl rfl rfl rfl ?_ | refine JL.store_box 1 ty26 (.tmp rfl) rfl (.tmp rfl) (by first | rfl | assumption) (V.cs_length _ _) rfl rfl rfl ?_
        refine JL.q rfl rfl rfl (QW.assign (.tmp rfl)) ?_
        refine JL.nil ?_
        refine thenQ.n ?_
        refine J.ret ?_
        refine thenQ.r ?_
        refine blkQ.r ?_
        refine thenQ.r ?_
        refine thenQ.r ?_
        refine blkQ.r ?_
        refine thenQ.r ?_
        exact ⟨_, selP [.k, .k, .k] _, _, RetEv.two rfl (by first | exact REv.cell 1 ty26 rfl rfl rfl rfl (.aggL (.cons (.refl _) (.cons (.refl _) (.cons (.refl _) (.cons (.nil true false _) (.cons (.nil true false _) .nil)))))) | exact REv.cell 1 ty26 rfl rfl (take_at (V.cs_length _ _) rfl) (V.cs_length _ _) (.aggL (.cons (.refl _) (.cons (.refl _) (.cons (.refl _) (.cons (.nil true false _) (.cons (.nil true false _) .nil))))))) (REv.tmp rfl (.refl _)), rfl, sel_perm [.k, .k, .k] _, ⟨congrArg Res.ret (getAV_of (u := .nil) (e := (u.fnd (p[j]'hlt)).2) (by rw [V.getv, if_neg (by simp [c1]), hwk, drop_at hlt, V.walk, if_pos c3])).symm, rfl⟩⟩
      · skip
        simp at c3
        have hil := V.fnd_lt hf.part c3
        have hcn : (if (u.fnd (p[j]'hlt)).2 = 0 then ((u.fnd (p[j]'hlt)).1 : Int) else -1) = ((u.fnd (p[j]'hlt)).1 : Int) := if_pos c3
        refine J.skip ?_
        refine thenQ.n ?_
        refine J.region_lit ?_
        refine JL.q rfl rfl rfl (QW.field_ptr fo26_4 (.tmp rfl) rfl) ?_
        refine JL.q rfl rfl rfl (QW.load_box1 2 ty24 (.tmp rfl) rfl (V.cs_it fr u)) ?_
        refine JL.q rfl rfl rfl (QW.move (.tmp rfl)) ?_
        refine JL.q rfl rfl rfl (QW.index_sl sl24 ty26 rfl (.tmp rfl) (.tmp rfl) (by first | rfl | omega | (simp; done)) (by exact (V.css_getE fr hil).trans (by rw [← V.kid_eq hil]))) ?_
        refine JL.q rfl rfl rfl (by first | exact QW.load_ref ty26 (.tmp rfl) rfl rfl | exact QW.load_ref ty26 (.tmp rfl) (take_at0 (V.cs_length _ _) rfl) (V.cs_length _ _)) ?_
        first | refine JL.store_boxF 2 ty26 (.tmp rfl) rfl (.tmp rfl) (by first | rfl | assumption) (rfl) (rfl) rfl ?_ | refine JL.store_boxF 2 ty26 (.tmp rfl) rfl (.tmp rfl) (by first | rfl | assumption) (rfl) (V.cs_length _ _) rfl ?_ | refine JL.store_boxF 2 ty26 (.tmp rfl) rfl (.tmp rfl) (by first | rfl | assumption) (V.cs_length _ _) (rfl) rfl ?_ | refine JL.store_boxF 2 ty26 (.tmp rfl) rfl (.tmp rfl) (by first | rfl | assumption) (V.cs_length _ _) (V.cs_length _ _) rfl ?_ | refine JL.store_box 2 ty26 (.tmp rfl) rfl (.tmp rfl) (by first | rfl | assumption) rfl rfl rfl rfl ?_ | refine JL.store_box 2 ty26 (.tmp rfl) rfl (.tmp rfl) (by first | rfl | assumption) (V.cs_length _ _) rfl rfl rfl ?_
        refine JL.nil ?_
        refine blkQ.n ?_
        refine thenQ.n ?_
        refine J.region_lit ?_
        refine JL.q rfl rfl rfl (QW.add (.tmp rfl) .const (by first | exact w64n (by first | rfl | omega | (simp; done)) (by omega) | exact w64 (by omega) | rfl)) ?_
        refine JL.q rfl rfl rfl (QW.move (.tmp rfl)) ?_
        refine JL.nil ?_
        refine thenQ.n ?_
        exact ⟨⟨j + 1, u.kid (u.fnd (p[j]'hlt)).1⟩, ⟨hlt, hf.kid (V.kid_mem hil), huw.kid (V.kid_mem hil), by rw [hwk, drop_at hlt, V.walk, if_neg (by simpa using c3)]⟩, by show p.length - (j + 1) < p.length - j; omega, Wk.re (.cons rfl (.refl _) (.cons rfl (.refl _) (.cons rfl (.refl _) (.cons rfl (.refl _) (.cons rfl (.refl _) .nil))))) (Reown.dropN 1 _ rfl) (fun _ h => by first | exact h | simp [h])⟩
    · skip
      have hge : p.length ≤ j := by simpa using c2
      refine J.exit ?_
      refine thenQ.x ?_
      refine thenQ.x ?_
      refine blkQ.hit ?_
      refine thenQ.n ?_
      refine J.seq ?_
      refine J.region_lit ?_
      refine JL.q rfl rfl rfl (by first | exact QW.load_box 1 ty26 (.tmp rfl) rfl rfl rfl | exact QW.load_box 1 ty26 (.tmp rfl) rfl (take_at (V.cs_length _ _) rfl) (V.cs_length _ _)) ?_
      refine JL.q rfl rfl rfl (QW.call gofn77 (.cons (.tmp rfl) .nil) (clone_rd Vc.self huw)) ?_
      first | refine JL.store_boxF 0 ty26 (.tmp rfl) rfl (.tmp rfl) (by first | rfl | assumption) (rfl) (rfl) rfl ?_ | refine JL.store_boxF 0 ty26 (.tmp rfl) rfl (.tmp rfl) (by first | rfl | assumption) (rfl) (V.cs_length _ _) rfl ?_ | refine JL.store_boxF 0 ty26 (.tmp rfl) rfl (.tmp rfl) (by first | rfl | assumption) (V.cs_length _ _) (rfl) rfl ?_ | refine JL.store_boxF 0 ty26 (.tmp rfl) rfl (.tmp rfl) (by first | rfl | assumption) (V.cs_length _ _) (V.cs_length _ _) rfl ?_ | refine JL.store_box 0 ty26 (.tmp rfl) rfl (.tmp rfl) (by first | rfl | assumption) rfl rfl rfl rfl ?_ | refine JL.store_box 0 ty26 (.tmp rfl) rfl (.tmp rfl) (by first | rfl | assumption) (V.cs_length _ _) rfl rfl rfl ?_
      refine JL.q rfl rfl rfl (QW.assign .const) ?_
      refine JL.nil ?_
      refine thenQ.n ?_
      refine J.ret ?_
      rw [List.drop_of_length_le hge] at hwk
      exact ⟨_, selP [.k, .k] _, _, RetEv.two rfl (by first | exact REv.cell 0 ty26 rfl rfl rfl rfl (.refl _) | exact REv.cell 0 ty26 rfl rfl (take_at (V.cs_length _ _) rfl) (V.cs_length _ _) (.refl _)) (REv.tmp rfl (.refl _)), rfl, sel_perm [.k, .k] _, ⟨congrArg Res.ret (getAV_of (u := u) (e := 0) (by rw [V.getv, if_neg (by simp [c1]), hwk]; rfl)).symm, rfl⟩⟩
end Go.Proofs.Ytkiankpmkglhcaa.J

/- Walks: a new item in an owned value. -/
namespace Go.Proofs.Ytkiankpmkglhcaa.J
open Go Go.RowKit
set_option linter.unusedVariables false
set_option linter.unusedSimpArgs false
set_option maxRecDepth 10000
set_option maxHeartbeats 4000000
theorem fnd_cases {v : V} {s : StT} {i : Nat} {e : Int} (h : v.fnd s = (i, e)) : e = 0 ∨ (e = 71 ∧ s.isKey = true ∧ v.kind = 5 ∧ i ≤ v.keys.length) ∨ (e = 82 ∧ s.isKey = false ∧ v.kind = 4 ∧ i = 0) ∨ (e = 81 ∧ i = 0) := by
  unfold V.fnd at h
  split at h
  · rename_i h1
    split at h
    · rename_i h2
      split at h
      · exact .inl (congrArg Prod.snd h).symm
      · cases h; exact .inr (.inl ⟨rfl, h1, h2, low_le _ _⟩)
    · cases h; exact .inr (.inr (.inr ⟨rfl, rfl⟩))
  · rename_i h1
    split at h
    · rename_i h2
      split at h
      · cases h; exact .inr (.inr (.inl ⟨rfl, by simpa using h1, h2, rfl⟩))
      · exact .inl (congrArg Prod.snd h).symm
    · cases h; exact .inr (.inr (.inr ⟨rfl, rfl⟩))
def V.stp (u : V) (s : StT) (last : Bool) : V × Nat × Int :=
  if (u.fnd s).2 = 0 then (u, (u.fnd s).1, 0) else if last = true then (if (u.grw s (u.fnd s).1 (u.fnd s).2).2 = 0 then (u.ins s (u.grw s (u.fnd s).1 (u.fnd s).2).1 .nil, (u.grw s (u.fnd s).1 (u.fnd s).2).1, 0) else (u, (u.grw s (u.fnd s).1 (u.fnd s).2).1, (u.grw s (u.fnd s).1 (u.fnd s).2).2))
  else (u, (u.fnd s).1, (u.fnd s).2)
def GrowR (z : At) (s : StT) : AV → List Own → Prop := fun x o => ∃ kv iv ok oi, x = .tup [.c (.int .i64 ((z.u.stp s true).2.1 : Int)), .c (.int .i64 (z.u.stp s true).2.2)] ∧ o = [.box z.b (holeC z (z.u.stp s true).1 kv iv), ok, oi] ∧ VTr (z.u.stp s true).1 kv iv ok oi
theorem GrowR.no {z : At} {s : StT} {i m : Nat} {e f : Int} {ok oi : Own} {o : List Own} (h : z.u.fnd s = (i, e)) (he : e ≠ 0) (hg : z.u.grw s i e = (m, f)) (hf : f ≠ 0) (ho : o = [.box z.b (holeC z z.u z.kv z.iv), ok, oi]) (hV : VTr z.u z.kv z.iv ok oi) : GrowR z s (.tup [.c (.int .i64 (m : Int)), .c (.int .i64 f)]) o := by
  have : z.u.stp s true = (z.u, m, f) := by simp [V.stp, h, he, hg, hf]
  exact ⟨z.kv, z.iv, ok, oi, by rw [this], by rw [this]; exact ho, by rw [this]; exact hV⟩
theorem GrowR.yes {z : At} {s : StT} {i m : Nat} {e : Int} {kv iv : Value} {ok oi : Own} {o : List Own} (h : z.u.fnd s = (i, e)) (he : e ≠ 0) (hg : z.u.grw s i e = (m, 0)) (ho : o = [.box z.b (holeC z z.u kv iv), ok, oi]) (hV : VTr (z.u.ins s m .nil) kv iv ok oi) : GrowR z s (.tup [.c (.int .i64 (m : Int)), .c (.int .i64 0)]) o := by
  have : z.u.stp s true = (z.u.ins s m .nil, m, 0) := by simp [V.stp, h, he, hg]
  exact ⟨kv, iv, ok, oi, by rw [this], by rw [this]; exact ho, by rw [this]; exact hV⟩
theorem hole_setK {z : At} {u : V} {kv kv2 iv : Value} (h : z.pre.length = z.off) : splice (holeC z u kv iv) (z.off + 3) [.c kv2] = holeC z u kv2 iv := (hole_set h (by decide)).trans (by rw [holeC_eq]; rfl)
theorem hole_setI {z : At} {u : V} {kv iv iv2 : Value} (h : z.pre.length = z.off) : splice (holeC z u kv iv) (z.off + 4) [.c iv2] = holeC z u kv iv2 := (hole_set h (by decide)).trans (by rw [holeC_eq]; rfl)
theorem strs_trL : ∀ {ks : List Str} {us : List Value} {o : Own}, TrL (keysAV ks).flatten us o → us = ks.map str
  | [], us, o, h => by cases h; rfl
  | s :: ks, us, o, h => by
    simp only [keysAV, List.map_cons, List.flatten_cons, List.singleton_append] at h
    cases h with
    | cons h1 h2 ho => rw [h1.c_inv, strs_trL h2]; rfl
theorem one_cells : ∀ {cs : List (List AV)} {ks : List Str}, (∀ x ∈ cs, x.length = 1) → cs.flatten = (ks.map str).map AV.c → cs = keysAV ks
  | [], [], _, _ => rfl
  | [], _ :: _, _, h => by simp at h
  | c :: cs, ks, h1, h => by
    obtain ⟨x, rfl⟩ := List.length_eq_one_iff.1 (h1 c (by simp))
    cases ks with
    | nil => simp at h
    | cons k ks =>
      simp only [List.flatten_cons, List.singleton_append, List.map_cons, List.cons.injEq] at h
      rw [one_cells (fun x hx => h1 x (by simp [hx])) h.2, h.1]
      rfl
theorem keys_cs {cs : List (List AV)} {ks : List Str} {us : List Value} {o : Own} (h1 : cs.flatten = us.map AV.c) (h3 : ∀ x ∈ cs, x.length = 1) (h : TrL (keysAV ks).flatten us o) : cs = keysAV ks := by
  rw [strs_trL h] at h1
  exact one_cells h3 h1
def nilC : List AV := [.c (.int .i64 0), .c (.int .u64 0), .c (str []), .c (.slice none 0 0), .c (.slice none 0 0)]
theorem OwnEq.noArr (e : ETy) : OwnEq (.grp [.arr (.slice none 0 0) e [], .grp []]) (.grp []) := ⟨fun b => by simp [Own.fp, Own.fpl, arrFp], fun w A => by
  simp only [ok_grp, List.forall_mem_cons, List.not_mem_nil, false_implies, implies_true, and_true, iff_true]
  exact .inl ⟨_, rfl, rfl⟩⟩
theorem nil_slTr (e : ETy) : Tr (.sl true false e []) (.slice none 0 0) (.grp []) := .sl (us := []) (o := .grp []) rfl rfl (fun _ h => by cases h) (fun _ h => by cases h) rfl (by simp) (.nil (.refl _)) (OwnEq.noArr e)
theorem nil_VTr : VTr .nil (.slice none 0 0) (.slice none 0 0) (.grp []) (.grp []) := ⟨rfl, rfl, nil_slTr eStr, nil_slTr eV⟩
/-- The items with a new one among them. -/
theorem ins_tr {is : List V} {cs : List (List AV)} {us : List Value} {o : Own} {m : Nat} {v : Value} (hm : m ≤ is.length) (hl : cs.length = is.length) (h3 : ∀ x ∈ cs, x.length = 5) (hf : cs.flatten = us.map AV.c) (h1 : us.all (·.oneCell') = true) (h : TrL (V.css true is).flatten us o) (h6 : (is.length + 1) * 80 ≤ reach) :
    Tr (.sl true false eV (V.css true (is.take m ++ [V.nil] ++ is.drop m))) v (.grp [.arr v eV (cs.take m ++ [nilC] ++ cs.drop m), o]) := by
  have hsp : (V.css true is).flatten = (V.css true (is.take m)).flatten ++ (V.css true (is.drop m)).flatten := by
    rw [← List.flatten_append, ← V.css_append, List.take_append_drop]
  rw [hsp] at h
  obtain ⟨u1, u2, o1, o2, rfl, g1, g2, g3⟩ := h.split
  rw [List.all_append, Bool.and_eq_true] at h1
  have hlen : (cs.take m).flatten.length = u1.length := by
    rw [← g1.length, flatten_length (sz := 5) _ (fun x hx => h3 x (List.mem_of_mem_take hx)), flatten_length (sz := 5) _ (V.css_sz true _), V.css_length, List.length_take, List.length_take, hl]
  have hf2 : (cs.take m).flatten ++ (cs.drop m).flatten = u1.map AV.c ++ u2.map AV.c := by
    rw [← List.flatten_append, List.take_append_drop, hf, List.map_append]
  obtain ⟨k1, k2⟩ := List.append_inj hf2 (by simpa using hlen)
  have htl : TrL (V.css true (is.take m ++ [V.nil] ++ is.drop m)).flatten (u1 ++ V.vals .nil (.slice none 0 0) (.slice none 0 0) ++ u2) o := by
    rw [V.css_append, V.css_append, List.flatten_append, List.flatten_append]
    have hn : (V.css true [V.nil]).flatten = V.nil.cs true := by simp [V.css]
    rw [hn]
    refine (g1.append nil_VTr.trL (o'' := o1) ?_).append g2 g3
    refine (OwnEq.grp_perm (List.Perm.swap _ _ _)).trans (OwnEq.trans (.cons ?_ (.refl _)) (OwnEq.drops _))
    exact (OwnEq.nest [] [.grp []]).trans (OwnEq.one _)
  refine items_tr (us := u1 ++ V.vals .nil (.slice none 0 0) (.slice none 0 0) ++ u2) ?_ ?_ ?_ ?_ ?_ htl
  · rw [List.flatten_append, List.flatten_append, k1, k2, List.map_append, List.map_append]
    rfl
  · simp only [List.length_append, List.length_take, List.length_drop, List.length_singleton]; omega
  · intro x hx
    simp only [List.mem_append, List.mem_singleton] at hx
    rcases hx with (hx | rfl) | hx
    · exact h3 x (List.mem_of_mem_take hx)
    · rfl
    · exact h3 x (List.mem_of_mem_drop hx)
  · rw [List.all_append, List.all_append, h1.1, h1.2, nil_VTr.ones]; rfl
  · simp only [List.length_append, List.length_take, List.length_drop, List.length_singleton]; unfold reach at h6 ⊢; omega
theorem keysAV_ins (ks : List Str) (s : Str) (m : Nat) : (keysAV ks).take m ++ [[.c (str s)]] ++ (keysAV ks).drop m = keysAV (ks.take m ++ [s] ++ ks.drop m) := by simp [keysAV, List.map_take, List.map_drop]
theorem grow_ok {z : At} {s : StT} {zs : List AV} {i : Nat} {e : Int} (hs : Sc s zs) (ho : z.pre.length = z.off) (hV : VTr z.u z.kv z.iv z.ok z.oi) (hp : partOk z.u = true) (hw : z.u.wf) (hsw : s.wf) (hie : z.u.fnd s = (i, e)) (he0 : e ≠ 0) : AC Try.prog 80 [.box z.b (holeC z z.u z.kv z.iv), z.ok, z.oi] [.c (.pointer (some ⟨z.b, z.off, none⟩)), .agg zs, .c (.int .i64 (i : Int)), .c (.int .i64 e)] (RetR (GrowR z s)) := by
  subst hs
  obtain ⟨l1, l2⟩ := partOk_len hp
  have hcs := (fnd_cases hie).resolve_left he0
  obtain ⟨ck, uk, o1, p1, p2, p3, p4, p5, p6⟩ := hV.ks.inv
  obtain ⟨ci, ui, o2, q1, q2, q3, q4, q5, q6⟩ := hV.is.inv
  obtain rfl := keys_cs p1 p3 p5
  rw [V.css_length] at q2
  have hkr : z.u.keys.length * 16 ≤ reach := by unfold reach; omega
  have hir : z.u.items.length * 80 ≤ reach := by unfold reach; omega
  have hV2 : VTr z.u z.kv z.iv (.arr z.kv eStr (keysAV z.u.keys)) (.grp [.arr z.iv eV ci, o2]) := ⟨hV.k1, hV.i1, keys_tr hkr, items_tr q1 q2 q3 q4 hir q5⟩
  refine AC.of_J Try.func80 rfl Try.ntmps80 rfl fun w0 A0 => ?_
  refine J.seq ?_
  refine J.reown (Reown.cons (Reown.spoil p6 q6)) ?_
  refine J.region_lit ?_
  refine JL.box_agg (.tmp rfl) rfl fun b5 => ?_
  refine JL.q rfl rfl rfl (QW.assign .const) ?_
  refine JL.q rfl rfl rfl (QW.assign .const) ?_
  refine JL.nil ?_
  refine thenQ.n ?_
  refine J.cutK (ι := Nat) [0, 5] (fun m => [(2, .c (.int .i64 (m : Int)))]) (fun m oo => oo) (fun m => z.u.grw s i e = (if 32 ≤ z.u.items.length then (0, 3) else (m, 0)) ∧ m ≤ z.u.items.length ∧ (s.isKey = true → m ≤ z.u.keys.length)) ?_ ?_
  · skip
    refine J.block ?_
    refine J.seq ?_
    refine J.region_lit ?_
    refine JL.q rfl rfl rfl (QW.move (.tmp rfl)) ?_
    refine JL.q rfl rfl rfl (QW.eql (.tmp rfl) .const) ?_
    refine JL.q rfl rfl rfl (QW.move (.tmp rfl)) ?_
    refine JL.g rfl rfl rfl rfl rfl (fun hg => (QW.field_ptr fo48_1 (.tmp rfl) rfl)) ?_
    refine JL.g rfl rfl rfl rfl rfl (fun hg => (QW.load_box1 0 ty9 (.when rfl hg) rfl rfl)) ?_
    refine JL.g rfl rfl rfl rfl rfl (fun hg => (QW.call gofn110 (.cons (.when rfl hg) .nil) (key_ok _))) ?_
    refine JL.g rfl rfl rfl rfl rfl (fun hg => (QW.not (.when rfl hg))) ?_
    refine JL.q rfl rfl rfl (QW.pick_and (.tmp rfl) (.tmp rfl)) ?_
    refine JL.q rfl rfl rfl (QW.assign (.tmp rfl)) ?_
    refine JL.nil ?_
    refine thenQ.n ?_
    refine J.cond (.tmp rfl) (fun c1 => ?_) (fun c1 => ?_)
    · skip
      have ht1 : e = 71 ∧ keyOk s.key = false := by simpa using c1
      refine J.seq ?_
      refine J.reown (Reown.cons (Reown.cons (Reown.cons (Reown.grp2 _ _ _)))) ?_
      refine J.region_lit ?_
      refine JL.q rfl rfl rfl (QW.assign .const) ?_
      refine JL.q rfl rfl rfl (QW.assign .const) ?_
      refine JL.nil ?_
      refine thenQ.n ?_
      refine J.ret ?_
      refine blkQ.r ?_
      refine thenQ.r ?_
      exact ⟨_, selP [.k, .p, .p, .p] _, _, RetEv.two rfl (REv.tmp rfl (.refl _)) (REv.tmp rfl (.refl _)), rfl, sel_perm [.k, .p, .p, .p] _, ⟨_, rfl, GrowR.no (m := 0) (f := 31) hie he0 (by unfold V.grw; rw [if_pos ht1]) (by first | decide | assumption | omega) rfl hV2⟩⟩
    · skip
      have hf1 : ¬ (e = 71 ∧ keyOk s.key = false) := by intro hh; simp [hh.1, hh.2] at c1
      refine J.seq ?_
      refine J.region_tailK 10 mixed (by kernel_rfl) (by kernel_rfl) (by kernel_rfl) rfl ?_
      refine .cons [] rfl rfl rfl (.q rfl (QW.move (.tmp rfl))) ?_
      refine .cons [20] rfl rfl rfl (.q rfl (QW.eql (.tmp rfl) .const)) ?_
      refine .cons [21] rfl rfl rfl (.q rfl (QW.move (.tmp rfl))) ?_
      refine .cons [22] rfl rfl rfl (.g rfl rfl rfl (fun hg => (QW.field_ptr fo48_2 (.tmp rfl) rfl))) ?_
      refine .cons [23, 22] rfl rfl rfl (.g rfl rfl rfl (fun hg => (QW.load_box1 0 ty3 (.when rfl hg) rfl rfl))) ?_
      refine .cons [22] rfl rfl rfl (.g rfl rfl rfl (fun hg => (QW.move (.tmp rfl)))) ?_
      refine .cons [25, 22] rfl rfl rfl (.g rfl rfl rfl (fun hg => (QW.nil_ptr (.when rfl hg)))) ?_
      refine .cons [26, 22] rfl rfl rfl (.g rfl rfl rfl (fun hg => (QW.field_ptr fo26_4 (.when rfl hg) rfl))) ?_
      refine .cons [27, 22] rfl rfl rfl (.g rfl rfl rfl (fun hg => (QW.load_box1 1 ty24 (.when rfl hg) rfl ((hole_at ho 4 (by decide)).trans rfl)))) ?_
      refine .cons [28, 22] rfl rfl rfl (.g rfl rfl rfl (fun hg => (QW.len_arr 3 sl24 (.when rfl hg) rfl))) ?_
      refine .nil ?_
      refine JL.g rfl rfl rfl rfl rfl (fun hg => (QW.eql (.when rfl hg) (.when rfl hg))) ?_
      refine JL.q rfl rfl rfl (QW.pick_and (.tmp rfl) (.tmp rfl)) ?_
      refine JL.q rfl rfl rfl (QW.assign (.tmp rfl)) ?_
      refine JL.nil ?_
      refine thenQ.n ?_
      refine J.cond (.tmp rfl) (fun c2 => ?_) (fun c2 => ?_)
      · skip
        have ht2 : e = 82 ∧ s.index = (z.u.items.length : Int) := by simpa [q2] using c2
        refine J.region_lit ?_
        refine JL.q rfl rfl rfl (QW.field_ptr fo48_2 (.tmp rfl) rfl) ?_
        refine JL.q rfl rfl rfl (QW.load_box1 0 ty3 (.tmp rfl) rfl rfl) ?_
        refine JL.q rfl rfl rfl (QW.assign (.tmp rfl)) ?_
        refine JL.nil ?_
        refine blkQ.n ?_
        refine thenQ.n ?_
        exact ⟨z.u.items.length, ⟨by unfold V.grw; rw [if_neg hf1, if_pos ht2], Nat.le_refl _, fun hk => absurd hk (by rcases hcs with h | h | h; (exact absurd (h.1.symm.trans ht2.1) (by decide)); (rw [h.2.1]; decide); (exact absurd (h.1.symm.trans ht2.1) (by decide)))⟩, Wk.re (.cons rfl (Le.intE ht2.2) (.cons rfl (.refl _) (.cons rfl (.refl _) .nil))) (Reown.refl _) (fun _ h => by first | exact h | simp [h])⟩
      · skip
        have hf2 : ¬ (e = 82 ∧ s.index = (z.u.items.length : Int)) := by intro hh; simp [hh.1, hh.2, q2] at c2
        refine J.seq ?_
        refine J.region_lit ?_
        refine JL.q rfl rfl rfl (QW.move (.tmp rfl)) ?_
        refine JL.q rfl rfl rfl (QW.neq (.tmp rfl) .const) ?_
        refine JL.q rfl rfl rfl (QW.assign (.tmp rfl)) ?_
        refine JL.nil ?_
        refine thenQ.n ?_
        refine J.cond (.tmp rfl) (fun c3 => ?_) (fun c3 => ?_)
        · skip
          have ht3 : e ≠ 71 := by simpa using c3
          refine J.seq ?_
          refine J.reown (Reown.cons (Reown.cons (Reown.cons (Reown.grp2 _ _ _)))) ?_
          refine J.region_lit ?_
          refine JL.q rfl rfl rfl (QW.move (.tmp rfl)) ?_
          refine JL.q rfl rfl rfl (QW.assign .const) ?_
          refine JL.q rfl rfl rfl (QW.assign (.tmp rfl)) ?_
          refine JL.nil ?_
          refine thenQ.n ?_
          refine J.ret ?_
          refine blkQ.r ?_
          refine thenQ.r ?_
          exact ⟨_, selP [.k, .p, .p, .p] _, _, RetEv.two rfl (REv.tmp rfl (.refl _)) (REv.tmp rfl (.refl _)), rfl, sel_perm [.k, .p, .p, .p] _, ⟨_, rfl, GrowR.no (m := 0) (f := e) hie he0 (by unfold V.grw; rw [if_neg hf1, if_neg hf2, if_pos ht3]) (by first | decide | assumption | omega) rfl hV2⟩⟩
        · skip
          have h71 : e = 71 := by simpa using c3
          have h5 : s.isKey = true ∧ z.u.kind = 5 ∧ i ≤ z.u.keys.length := by
            rcases hcs with h | h | h
            · exact h.2
            · exact absurd (h.1.symm.trans h71) (by decide)
            · exact absurd (h.1.symm.trans h71) (by decide)
          have hkl := (partOk_rec hp h5.2.1).1
          refine J.skip ?_
          refine blkQ.n ?_
          refine thenQ.n ?_
          exact ⟨i, ⟨by unfold V.grw; rw [if_neg hf1, if_neg hf2, if_neg (by simp [h71])], by omega, fun _ => h5.2.2⟩, Wk.re (.cons rfl (.refl _) (.cons rfl (.refl _) (.cons rfl (.refl _) .nil))) (Reown.refl _) (fun _ h => by first | exact h | simp [h])⟩
  · intro m ⟨hgm, hmi, hmk⟩
    refine J.conv (by (try simp only [id_eq, stepsO, List.map_cons, List.map_nil, valO, nthO, curO, mrg, List.reverse_cons, List.reverse_nil, List.nil_append, List.cons_append, List.append_nil, List.getElem?_cons_zero, List.getElem?_cons_succ, Option.map_some, Option.getD_some, List.set_cons_zero, List.set_cons_succ, AV.cellsOf, splice_zero, splice_succ, Nat.zero_add, Nat.reduceAdd]); rfl) ?_
    refine J.seq ?_
    refine J.seq ?_
    refine J.region_lit ?_
    refine JL.q rfl rfl rfl (QW.move (.tmp rfl)) ?_
    refine JL.q rfl rfl rfl (QW.nil_ptr (.tmp rfl)) ?_
    refine JL.q rfl rfl rfl (QW.field_ptr fo26_4 (.tmp rfl) rfl) ?_
    refine JL.q rfl rfl rfl (QW.load_box1 1 ty24 (.tmp rfl) rfl ((hole_at ho 4 (by decide)).trans rfl)) ?_
    refine JL.q rfl rfl rfl (QW.len_arr 3 sl24 (.tmp rfl) rfl) ?_
    refine JL.q rfl rfl rfl (QW.geq (.tmp rfl) .const) ?_
    refine JL.nil ?_
    refine thenQ.n ?_
    refine J.cond (.tmp rfl) (fun c1 => ?_) (fun c1 => ?_)
    · skip
      have h32 : 32 ≤ z.u.items.length := by (simp [q2] at c1; omega)
      refine J.seq ?_
      refine J.reown (Reown.cons (Reown.cons (Reown.cons (Reown.grp2 _ _ _)))) ?_
      refine J.region_lit ?_
      refine JL.q rfl rfl rfl (QW.assign .const) ?_
      refine JL.q rfl rfl rfl (QW.assign .const) ?_
      refine JL.nil ?_
      refine thenQ.n ?_
      refine J.ret ?_
      refine thenQ.r ?_
      exact ⟨_, selP [.k, .p, .p, .p] _, _, RetEv.two rfl (REv.tmp rfl (.refl _)) (REv.tmp rfl (.refl _)), rfl, sel_perm [.k, .p, .p, .p] _, ⟨_, rfl, GrowR.no (m := 0) (f := 3) hie he0 (by rw [hgm, if_pos h32]) (by first | decide | assumption | omega) rfl hV2⟩⟩
    · skip
      have h32 : ¬ 32 ≤ z.u.items.length := by (simp [q2] at c1; omega)
      refine J.skip ?_
      refine thenQ.n ?_
      refine J.cutK (ι := Value × List Str) [0, 2] (fun ⟨kv2, ks2⟩ => []) (fun ⟨kv2, ks2⟩ oo => List.set (List.set oo 1 (.box z.b (holeC z z.u kv2 z.iv))) 2 (.arr kv2 eStr (keysAV ks2))) (fun ⟨kv2, ks2⟩ => kv2.oneCell' = true ∧ ks2 = (if s.isKey = true then z.u.keys.take m ++ [s.key] ++ z.u.keys.drop m else z.u.keys)) ?_ ?_
      · skip
        refine J.seq ?_
        refine J.region_lit ?_
        refine JL.q rfl rfl rfl (QW.field_ptr fo48_0 (.tmp rfl) rfl) ?_
        refine JL.q rfl rfl rfl (QW.load_box1 0 ty4 (.tmp rfl) rfl rfl) ?_
        refine JL.nil ?_
        refine thenQ.n ?_
        refine J.cond (.tmp rfl) (fun c2 => ?_) (fun c2 => ?_)
        · skip
          have hK : s.isKey = true := c2
          refine J.region_outK 10 1 (fun os_ ow_ x_ o_ => match os_ with | [] => (∃ o2_, (CloneR eStr ((keysAV z.u.keys).take m ++ [[.c (str s.key)]] ++ (keysAV z.u.keys).drop m)) x_ o2_ ∧ o_ = mrg [.k, .k, .p] o2_ ow_) | _ => False) mixed (by kernel_rfl) (by kernel_rfl) (by kernel_rfl) rfl ?_
          refine OutK.quiet [] rfl rfl rfl (fun qs_ qv_ ql_ => (.q rfl (QW.move (.tmp rfl)))) ?_
          refine OutK.quiet [] rfl rfl rfl (fun qs_ qv_ ql_ => (.q rfl (QW.move (.tmp rfl)))) ?_
          refine OutK.quiet [47] rfl rfl rfl (fun qs_ qv_ ql_ => (.q rfl (QW.nil_ptr (.tmp rfl)))) ?_
          refine OutK.quiet [48] rfl rfl rfl (fun qs_ qv_ ql_ => (.q rfl (QW.field_ptr fo26_3 (.tmp rfl) rfl))) ?_
          refine OutK.quiet [49] rfl rfl rfl (fun qs_ qv_ ql_ => by
              rcases qs_ with _ | ⟨⟨y0, p0⟩, qs_⟩
              · skip
                exact (.q rfl (QW.load_box1 1 ty23 (.tmp rfl) rfl ((hole_at ho 3 (by decide)).trans rfl)))
              rcases qs_ with _ | ⟨⟨y1, p1⟩, qs_⟩
              · skip
                obtain ⟨hr0, _⟩ := qv_
                obtain ⟨o55, ⟨v55, rfl, hs55, rfl⟩, rfl⟩ := hr0
                exact (.q rfl (QW.load_box1 1 ty23 (.tmp rfl) rfl ((hole_at ho 3 (by decide)).trans rfl)))
              exact absurd ql_ (by simp)) ?_
          refine OutK.quiet [] rfl rfl rfl (fun qs_ qv_ ql_ => (.q rfl (QW.move (.tmp rfl)))) ?_
          refine OutK.quiet [] rfl rfl rfl (fun qs_ qv_ ql_ => (.q rfl (QW.field_ptr fo48_1 (.tmp rfl) rfl))) ?_
          refine OutK.quiet [52] rfl rfl rfl (fun qs_ qv_ ql_ => by
              rcases qs_ with _ | ⟨⟨y0, p0⟩, qs_⟩
              · skip
                exact (.q rfl (QW.load_box1 0 ty9 (.tmp rfl) rfl rfl))
              rcases qs_ with _ | ⟨⟨y1, p1⟩, qs_⟩
              · skip
                obtain ⟨hr0, _⟩ := qv_
                obtain ⟨o55, ⟨v55, rfl, hs55, rfl⟩, rfl⟩ := hr0
                exact (.q rfl (QW.load_box1 0 ty9 (.tmp rfl) rfl rfl))
              exact absurd ql_ (by simp)) ?_
          refine OutK.quiet [53] rfl rfl rfl (fun qs_ qv_ ql_ => (.q rfl (QW.buildSlice (idx := [0]) (xs := [[.c (str s.key)]]) sl23 el9 z9 rfl (.cons (.tmp rfl) .nil) rfl rfl rfl rfl rfl rfl rfl rfl rfl))) ?_
          refine OutK.loud [50, 51, 54] rfl rfl rfl rfl rfl (fun qs_ qv_ ql_ => by
              obtain rfl : qs_ = [] := List.length_eq_zero_iff.1 ql_
              exact LStepR.callRF (d := 55) [.k, .k, .p] gofn111 Lent.nil (fun _ => (.cons (.tmp rfl) (.cons (.tmp rfl) (.cons (.tmp rfl) .nil)))) (insStr_ok (xs := keysAV z.u.keys) (i := m) (by rw [keysAV_length]; exact hmk hK) rfl (by rw [keysAV_length]; unfold reach; omega)) (.inl rfl)) ?_
          refine .nil fun qs_ qv_ ql_ => ?_
          obtain ⟨⟨y0, p0⟩, qs_, rfl⟩ : ∃ p t, qs_ = p :: t := by (cases qs_ with | nil => simp at ql_ | cons p t => exact ⟨p, t, rfl⟩)
          obtain rfl : qs_ = [] := List.length_eq_zero_iff.1 (by simpa using ql_)
          obtain ⟨hr0, _⟩ := qv_
          obtain ⟨o55, ⟨v55, rfl, hs55, rfl⟩, rfl⟩ := hr0
          refine JL.conv (by (try simp only [id_eq, stepsO, List.map_cons, List.map_nil, valO, nthO, curO, mrg, List.reverse_cons, List.reverse_nil, List.nil_append, List.cons_append, List.append_nil, List.getElem?_cons_zero, List.getElem?_cons_succ, Option.map_some, Option.getD_some, List.set_cons_zero, List.set_cons_succ, AV.cellsOf, splice_zero, splice_succ, Nat.zero_add, Nat.reduceAdd]); rfl) ?_
          refine JL.q rfl rfl rfl (QW.nil_ptr (.tmp rfl)) ?_
          refine JL.q rfl rfl rfl (QW.field_ptr fo26_3 (.tmp rfl) rfl) ?_
          refine JL.store_box 1 ty23 (.tmp rfl) rfl (.tmp rfl) (by first | rfl | assumption) rfl (by rw [hole_len _ _ _ _ ho]; exact Nat.ble_eq_true_of_le (by omega)) (hole_setK ho) rfl ?_
          refine JL.nil ?_
          refine thenQ.n ?_
          exact ⟨⟨v55, z.u.keys.take m ++ [s.key] ++ z.u.keys.drop m⟩, ⟨hs55, by rw [if_pos hK]⟩, Wk.re (.cons rfl (.refl _) (.cons rfl (.refl _) .nil)) (Reown.ofEq (by show [_, Own.box z.b _, Own.arr v55 eStr _, _, _] = _; rw [keysAV_ins]; rfl)) (fun _ h => by first | exact h | simp [h])⟩
        · skip
          have hK : s.isKey = false := c2
          refine J.skip ?_
          refine thenQ.n ?_
          exact ⟨⟨z.kv, z.u.keys⟩, ⟨hV.k1, by rw [if_neg (by simp [hK])]⟩, Wk.re (.cons rfl (.refl _) (.cons rfl (.refl _) .nil)) (Reown.refl _) (fun _ h => by first | exact h | simp [h])⟩
      · intro ⟨kv2, ks2⟩ ⟨hk2, hks2⟩
        refine J.conv (by (try simp only [id_eq, stepsO, List.map_cons, List.map_nil, valO, nthO, curO, mrg, List.reverse_cons, List.reverse_nil, List.nil_append, List.cons_append, List.append_nil, List.getElem?_cons_zero, List.getElem?_cons_succ, Option.map_some, Option.getD_some, List.set_cons_zero, List.set_cons_succ, AV.cellsOf, splice_zero, splice_succ, Nat.zero_add, Nat.reduceAdd]); rfl) ?_
        refine J.seq ?_
        refine J.region_lit ?_
        refine JL.q rfl rfl rfl (QW.move (.tmp rfl)) ?_
        refine JL.q rfl rfl rfl (QW.move (.tmp rfl)) ?_
        refine JL.q rfl rfl rfl (QW.nil_ptr (.tmp rfl)) ?_
        refine JL.q rfl rfl rfl (QW.field_ptr fo26_4 (.tmp rfl) rfl) ?_
        refine JL.q rfl rfl rfl (QW.load_box1 1 ty24 (.tmp rfl) rfl ((hole_at ho 4 (by decide)).trans rfl)) ?_
        refine JL.q rfl rfl rfl (QW.move (.tmp rfl)) ?_
        refine JL.q rfl rfl rfl (QW.build (idx := []) pl26 z26 rfl .nil rfl rfl rfl rfl) ?_
        refine JL.q rfl rfl rfl (QW.buildSlice (idx := [0]) (xs := [nilC]) sl24 el26 z26 rfl (.cons (.tmp rfl) .nil) rfl rfl rfl rfl rfl rfl rfl rfl rfl) ?_
        refine JL.callRF [.k, .k, .k, .p] gofn112 rfl Lent.nil (fun _ => (.cons (.tmp rfl) (.cons (.tmp rfl) (.cons (.tmp rfl) .nil)))) (insVal_ok (xs := ci) (i := m) (by omega) rfl (by unfold reach; omega)) (.inl rfl) fun x66 o66 h66 => ?_
        obtain ⟨v66, rfl, hs66, rfl⟩ := h66
        refine JL.q rfl rfl rfl (QW.nil_ptr (.tmp rfl)) ?_
        refine JL.q rfl rfl rfl (QW.field_ptr fo26_4 (.tmp rfl) rfl) ?_
        refine JL.store_box 1 ty24 (.tmp rfl) rfl (.tmp rfl) (by first | rfl | assumption) rfl (by rw [hole_len _ _ _ _ ho]; exact Nat.ble_eq_true_of_le (by omega)) (hole_setI ho) rfl ?_
        refine JL.nil ?_
        refine thenQ.n ?_
        refine J.seq ?_
        refine J.reown (Reown.cons (Reown.cons (Reown.cons (Reown.grp2 _ _ _)))) ?_
        refine J.region_lit ?_
        refine JL.q rfl rfl rfl (QW.move (.tmp rfl)) ?_
        refine JL.q rfl rfl rfl (QW.assign (.tmp rfl)) ?_
        refine JL.q rfl rfl rfl (QW.assign .const) ?_
        refine JL.nil ?_
        refine thenQ.n ?_
        refine J.ret ?_
        exact ⟨_, selP [.k, .p, .p, .p] _, _, RetEv.two rfl (REv.tmp rfl (.refl _)) (REv.tmp rfl (.refl _)), rfl, sel_perm [.k, .p, .p, .p] _, ⟨_, rfl, GrowR.yes (m := m) hie he0 (by rw [hgm, if_neg h32]) rfl ⟨hk2, hs66, by (rw [show (z.u.ins s m .nil).keys = ks2 from hks2.symm]; exact keys_tr (by rw [hks2]; split <;> ((try simp only [List.length_append, List.length_take, List.length_drop, List.length_singleton]); unfold reach; omega))), ins_tr hmi q2 q3 q1 q4 q5 (by unfold reach; omega)⟩⟩⟩
end Go.Proofs.Ytkiankpmkglhcaa.J

/- Walks: a part of a value is another one. -/
namespace Go.Proofs.Ytkiankpmkglhcaa.J
open Go Go.RowKit
set_option linter.unusedVariables false
set_option linter.unusedSimpArgs false
set_option maxRecDepth 10000
set_option maxHeartbeats 4000000
theorem V.nil_fine : V.nil.Fine := .mk rfl fun _ h => by cases h
theorem V.ins_get {u : V} {s : StT} {m : Nat} (hm : m ≤ u.items.length) : ∃ h : m < (u.ins s m .nil).items.length, (u.ins s m .nil).items[m] = .nil := by
  have hl : m < (u.items.take m ++ [V.nil] ++ u.items.drop m).length := by simp; omega
  refine ⟨hl, ?_⟩
  show (u.items.take m ++ [V.nil] ++ u.items.drop m)[m]'hl = .nil
  simp [List.getElem_append, Nat.min_eq_left hm]
theorem V.ins_set {u x : V} {s : StT} {m : Nat} (hm : m ≤ u.items.length) : (u.ins s m .nil).setAt m x = u.ins s m x := by
  obtain ⟨k, b, t, ks, is⟩ := u
  simp only [V.items] at hm
  simp only [V.setAt, V.ins, V.kind, V.bits, V.text, V.keys, V.items]
  congr 1
  rw [List.append_assoc, List.set_append_right _ _ (by simp; omega)]
  simp [Nat.min_eq_left hm]
theorem V.grw_le {u : V} {s : StT} {i m : Nat} {e : Int} (hp : partOk u = true) (h : u.fnd s = (i, e)) (he : e ≠ 0) (hg : u.grw s i e = (m, 0)) : m ≤ u.items.length := by
  unfold V.grw at hg
  split at hg
  · cases hg
  · split at hg
    · split at hg
      · cases hg
      · cases hg; exact Nat.le_refl _
    · split at hg
      · rename_i h1 h2 h3
        cases hg; exact absurd rfl he
      · rename_i h3
        split at hg
        · cases hg
        · cases hg
          have h71 : e = 71 := Decidable.byContradiction h3
          rcases fnd_cases h with h | h | h | h
          · exact absurd h he
          · have := (partOk_rec hp h.2.2.1).1; omega
          · omega
          · omega
theorem V.stp_no {u u2 x : V} {s : StT} {r : List StT} {i2 : Nat} {e2 : Int} (h : u.stp s (decide (r = [])) = (u2, i2, e2)) (he : e2 ≠ 0) : u.set (s :: r) x = (.nil, e2) := by
  unfold V.stp at h
  split at h
  · cases h; exact absurd rfl he
  · rename_i h0
    split at h
    · rename_i hr
      have hr : r = [] := by simpa using hr
      subst hr
      split at h
      · cases h; exact absurd rfl he
      · rename_i hg
        cases h
        show u.put s x = _
        rw [V.put, if_neg h0, if_neg hg]
    · rename_i hr
      cases h
      cases r with
      | nil => simp at hr
      | cons t r => rw [V.set, if_pos h0]
theorem V.stp_yes {u u2 x : V} {s : StT} {r : List StT} {i2 : Nat} (hf : u.Fine) (hw : u.wf) (hs : s.wf) (h : u.stp s (decide (r = [])) = (u2, i2, 0)) :
    ∃ hlt : i2 < u2.items.length, u2.wf ∧ u2.items[i2].Fine ∧ u.set (s :: r) x = if (u2.items[i2].set r x).2 ≠ 0 then (.nil, (u2.items[i2].set r x).2) else (u2.setAt i2 (u2.items[i2].set r x).1, 0) := by
  unfold V.stp at h
  split at h
  · rename_i h0
    cases h
    have hlt := V.fnd_lt hf.part h0
    refine ⟨hlt, hw, hf.kid (List.getElem_mem hlt), ?_⟩
    cases r with
    | nil => show u.put s x = _; rw [V.put, if_pos h0]; rfl
    | cons t r => rw [V.set, if_neg (by simp [h0]), V.kid_eq hlt]
  · rename_i h0
    split at h
    · rename_i hr
      have hr : r = [] := by simpa using hr
      subst hr
      split at h
      · rename_i hg
        cases h
        have hm := V.grw_le (m := (u.grw s (u.fnd s).1 (u.fnd s).2).1) hf.part (i := (u.fnd s).1) (e := (u.fnd s).2) rfl h0 (Prod.ext rfl hg)
        obtain ⟨hlt, hnil⟩ := V.ins_get (s := s) hm
        refine ⟨hlt, V.ins_wf hw hf.part hs V.wf_nil, by rw [hnil]; exact V.nil_fine, ?_⟩
        show u.put s x = if (V.set _ [] x).2 ≠ 0 then _ else (V.setAt _ _ x, 0)
        rw [V.put, if_neg h0, if_pos hg, V.ins_set hm]
        rfl
      · rename_i hg
        have := congrArg (·.2.2) h
        exact absurd this hg
    · have := congrArg (·.2.2) h
      exact absurd this h0
def plugR (f : V → V) (w : V × Int) : V × Int := if w.2 ≠ 0 then (.nil, w.2) else (f w.1, 0)
theorem plugR_id (w : V × Int) (h : w.2 ≠ 0 → w.1 = .nil) : plugR id w = w := by
  unfold plugR
  split
  · rename_i h0; rw [← h h0]
  · rename_i h0
    have : w.2 = 0 := Decidable.byContradiction h0
    exact Prod.ext rfl this.symm
theorem V.set_nil : ∀ {p : List StT} {v x : V}, (v.set p x).2 ≠ 0 → (v.set p x).1 = .nil
  | [], v, x, h => absurd rfl h
  | [s], v, x, h => by
    change (v.put s x).2 ≠ 0 at h
    show (v.put s x).1 = .nil
    unfold V.put at h ⊢
    split
    · rename_i h0; rw [if_pos h0] at h; exact absurd rfl h
    · rename_i h0
      rw [if_neg h0] at h
      split
      · rename_i h1; rw [if_pos h1] at h; exact absurd rfl h
      · rfl
  | s :: t :: r, v, x, h => by
    unfold V.set at h ⊢
    split
    · rfl
    · rename_i h0
      rw [if_neg h0] at h
      split
      · rfl
      · rename_i h1; rw [if_neg h1] at h; exact absurd rfl h
theorem plugR_if (f : V → V) (u : V) (i : Nat) (w : V × Int) : plugR f (if w.2 ≠ 0 then (.nil, w.2) else (u.setAt i w.1, 0)) = plugR (fun z => f (u.setAt i z)) w := by
  unfold plugR
  by_cases h : w.2 = 0
  · simp [h]
  · simp [h]
theorem setv_err {v x w : V} {p : List StT} {e : Int} (hv : v.err = 0) (hx : x.err = 0) (h : v.set p x = (w, e)) (he : e ≠ 0) : v.setv p x = (.nil, e) := by rw [V.setv, if_neg (by simp [hv]), if_neg (by simp [hx]), h, if_pos he]
theorem setv_bad {v x w : V} {p : List StT} (hv : v.err = 0) (hx : x.err = 0) (h : v.set p x = (w, 0)) (he : w.err ≠ 0) : v.setv p x = (.nil, w.err) := by rw [V.setv, if_neg (by simp [hv]), if_neg (by simp [hx]), h, if_neg (by simp), if_pos he]
theorem setv_ok {v x w : V} {p : List StT} (hv : v.err = 0) (hx : x.err = 0) (h : v.set p x = (w, 0)) (he : w.err = 0) : v.setv p x = (w, 0) := by rw [V.setv, if_neg (by simp [hv]), if_neg (by simp [hx]), h, if_neg (by simp), if_neg (by simp [he])]
def setAV (v : V) (p : List StT) (x : V) : AV := .tup [.agg ((v.setv p x).1.cs true), .c (.int .i64 (v.setv p x).2)]
theorem setAV_of {v u x : V} {p : List StT} {e : Int} (h : v.setv p x = (u, e)) : setAV v p x = .tup [.agg (u.cs true), .c (.int .i64 e)] := by rw [setAV, h]
theorem fndAV_fresh (v : V) (s : StT) : Fresh (fndAV v s) := .tup (FlL.cons (.c _) (FlL.cons (.c _) .nil))
theorem Reown.rot3 (a b c d : Own) (l : List Own) : Reown (a :: b :: c :: d :: l) (b :: c :: d :: a :: l) := .perm (List.perm_middle (l₁ := [b, c, d])).symm
theorem Reown.step {cur ok bx ctx kids ok3 oi3 ob oa : Own} (h : Reown [kids] [ok3, oi3, ob, oa]) : Reown [cur, ok, bx, ctx, kids] [bx, ok3, oi3, .grp [cur, ok, ob, oa, ctx]] := by
  refine (Reown.left (c := [cur, ok, bx, ctx]) h).trans ⟨fun y => by simp only [fps_cons, fps_nil, fp_grp, List.count_append, List.count_nil, List.cons_append, List.nil_append]; omega, fun w A h => ?_⟩
  simp only [List.forall_mem_cons, List.cons_append, List.nil_append, ok_grp, List.not_mem_nil, false_implies, implies_true, and_true] at h ⊢
  obtain ⟨q1, q2, q3, q4, q5, q6, q7, q8⟩ := h
  exact ⟨q3, q5, q6, q1, q2, q7, q8, q4⟩
theorem Reown.fin {cur ok oi ctx okx oix : Own} {l : List Own} (h : Reown [cur, okx, oix, ctx] l) : Reown [cur, ok, oi, ctx, okx, oix] l := by
  refine Reown.trans ⟨fun y => by simp only [fps_cons, fps_nil, List.count_append, List.count_nil]; omega, fun w A h => ?_⟩ h
  simp only [List.forall_mem_cons, List.not_mem_nil, false_implies, implies_true, and_true] at h ⊢
  exact ⟨h.1, h.2.2.2.2.1, h.2.2.2.2.2, h.2.2.2.1⟩
theorem pair_at {fr : Bool} {v x : V} {j : Nat} (h : j < 2) : ((v.cs fr ++ x.cs fr).drop (j * 5)).take 5 = (if j = 0 then v else x).cs fr := by
  have h1 := V.cs_length fr v
  have h2 := V.cs_length fr x
  rcases Nat.lt_or_ge j 1 with h0 | h0
  · obtain rfl : j = 0 := by omega
    rw [Nat.zero_mul, List.drop_zero, List.take_left' h1]; rfl
  · obtain rfl : j = 1 := by omega
    rw [Nat.one_mul, List.drop_left' h1, List.take_of_length_le (by omega)]; rfl
theorem cells_at {cs : List (List AV)} {sp : List Value} {i : Nat} {c : List AV} (h : cs[i]? = some c) : cs.flatten ++ sp.map AV.c = (cs.take i).flatten ++ c ++ ((cs.drop (i + 1)).flatten ++ sp.map AV.c) := by
  obtain ⟨hi, rfl⟩ := List.getElem?_eq_some_iff.1 h
  have h2 := congrArg List.flatten (show cs = cs.take i ++ cs[i] :: cs.drop (i + 1) by rw [← List.drop_eq_getElem_cons hi, List.take_append_drop])
  rw [List.flatten_append, List.flatten_cons] at h2
  rw [h2]
  simp only [List.append_assoc]
theorem set_ok {fr fr2 c2 : Bool} {v x : V} {p : List StT} {ys zs : List AV} (hv : Vc fr v ys) (hx : Vc fr x zs) (hw : v.wf) (hxw : x.wf) (hp : p.length * 32 ≤ reach ∧ ∀ s ∈ p, s.wf) : Fn Try.prog 30 [.agg ys, .sl fr2 c2 eSt (StT.css p), .agg zs] (setAV v p x) := by
  obtain ⟨hp80, hpw⟩ := hp
  have hpl : p.length ≤ 4398046511104 := by unfold reach at hp80; omega
  subst hv hx
  refine AC.of_J Try.func30 rfl Try.ntmps30 rfl fun w0 A0 => ?_
  refine J.seq ?_
  refine J.region_lit ?_
  refine JL.box_agg (.tmp rfl) rfl fun b3 => ?_
  refine JL.box_agg (.tmp rfl) rfl fun b5 => ?_
  refine JL.alloc z26 rfl rfl fun b6 => ?_
  refine JL.q rfl rfl rfl (QW.assign .const) ?_
  refine JL.nil ?_
  refine thenQ.n ?_
  refine J.seq ?_
  refine J.seq ?_
  refine J.region_lit ?_
  refine JL.q rfl rfl rfl (by first | exact QW.load_box 2 ty26 (.tmp rfl) rfl rfl rfl | exact QW.load_box 2 ty26 (.tmp rfl) rfl (take_at (V.cs_length _ _) rfl) (V.cs_length _ _)) ?_
  refine JL.q rfl rfl rfl (by first | exact QW.load_box 1 ty26 (.tmp rfl) rfl rfl rfl | exact QW.load_box 1 ty26 (.tmp rfl) rfl (take_at (V.cs_length _ _) rfl) (V.cs_length _ _)) ?_
  refine JL.q rfl rfl rfl (QW.buildA (idx := [0, 1]) (sz := 5) (by kernel_rfl) z133 rfl (.cons (.tmp rfl) (.cons (.tmp rfl) .nil)) rfl rfl rfl (fill_two (z0 := nilC) (z1 := nilC) rfl rfl (by exact V.cs_length _ _) (by exact V.cs_length _ _))) ?_
  refine JL.q rfl rfl rfl (QW.move .const) ?_
  refine JL.nil ?_
  refine thenQ.n ?_
  refine J.block ?_
  refine J.loopK (ι := Nat) [1, 3, 5, 6, 20] (fun j => [(21, .c (.int .i64 (j : Int)))]) (fun _ oo => oo) (fun j => j ≤ 2 ∧ (0 < j → v.err = 0) ∧ (1 < j → x.err = 0)) (fun j => 2 - j) 0 (⟨by decide, fun h => absurd h (by decide), fun h => absurd h (by decide)⟩) (Wk.re (.cons rfl (.refl _) (.cons rfl (.refl _) (.cons rfl (.refl _) (.cons rfl (.refl _) (.cons rfl (.refl _) (.cons rfl (.refl _) .nil)))))) (Reown.refl _) (fun _ h => by first | exact h | simp [h])) ?_
  intro j ⟨hj2, he1, he2⟩
  refine J.conv (by (try simp only [id_eq, stepsO, List.map_cons, List.map_nil, valO, nthO, curO, mrg, List.reverse_cons, List.reverse_nil, List.nil_append, List.cons_append, List.append_nil, List.getElem?_cons_zero, List.getElem?_cons_succ, Option.map_some, Option.getD_some, List.set_cons_zero, List.set_cons_succ, AV.cellsOf, splice_zero, splice_succ, Nat.zero_add, Nat.reduceAdd]); rfl) ?_
  refine J.seq ?_
  refine J.region_lit ?_
  refine JL.q rfl rfl rfl (QW.lss (.tmp rfl) .const) ?_
  refine JL.nil ?_
  refine thenQ.n ?_
  refine J.seq ?_
  refine J.cond (.tmp rfl) (fun c1 => ?_) (fun c1 => ?_)
  · skip
    have hj1 : j < 2 := by (simp at c1; omega)
    have hwj : (if j = 0 then v else x).wf := by split <;> assumption
    refine J.skip ?_
    refine thenQ.n ?_
    refine J.seq ?_
    refine J.block ?_
    refine J.seq ?_
    refine J.region_lit ?_
    refine JL.q rfl rfl rfl (QW.indexA (zs := (if j = 0 then v else x).cs fr) (ln := 2) (et := 26) (by kernel_rfl) ty26 (.tmp rfl) (.tmp rfl) rfl (by omega) (pair_at hj1) (V.cs_length _ _)) ?_
    refine JL.alloc z26 rfl rfl fun b9 => ?_
    first | refine JL.store_boxF 0 ty26 (.tmp rfl) rfl (.tmp rfl) (by first | rfl | assumption) (rfl) (rfl) rfl ?_ | refine JL.store_boxF 0 ty26 (.tmp rfl) rfl (.tmp rfl) (by first | rfl | assumption) (rfl) (V.cs_length _ _) rfl ?_ | refine JL.store_boxF 0 ty26 (.tmp rfl) rfl (.tmp rfl) (by first | rfl | assumption) (V.cs_length _ _) (rfl) rfl ?_ | refine JL.store_boxF 0 ty26 (.tmp rfl) rfl (.tmp rfl) (by first | rfl | assumption) (V.cs_length _ _) (V.cs_length _ _) rfl ?_ | refine JL.store_box 0 ty26 (.tmp rfl) rfl (.tmp rfl) (by first | rfl | assumption) rfl rfl rfl rfl ?_ | refine JL.store_box 0 ty26 (.tmp rfl) rfl (.tmp rfl) (by first | rfl | assumption) (V.cs_length _ _) rfl rfl rfl ?_
    refine JL.nil ?_
    refine thenQ.n ?_
    refine J.seq ?_
    refine J.region_lit ?_
    refine JL.q rfl rfl rfl (by first | exact QW.load_box 0 ty26 (.tmp rfl) rfl rfl rfl | exact QW.load_box 0 ty26 (.tmp rfl) rfl (take_at (V.cs_length _ _) rfl) (V.cs_length _ _)) ?_
    refine JL.q rfl rfl rfl (QW.call gofn24 (.cons (.tmp rfl) .nil) (check_ok Vc.self hwj)) ?_
    refine JL.q rfl rfl rfl (QW.assign (.tmp rfl)) ?_
    refine JL.nil ?_
    refine thenQ.n ?_
    refine J.seq ?_
    refine J.region_lit ?_
    refine JL.q rfl rfl rfl (QW.move (.tmp rfl)) ?_
    refine JL.q rfl rfl rfl (QW.neq (.tmp rfl) .const) ?_
    refine JL.nil ?_
    refine thenQ.n ?_
    refine J.cond (.tmp rfl) (fun c2 => ?_) (fun c2 => ?_)
    · skip
      simp at c2
      have hbad : v.setv p x = (.nil, (if j = 0 then v else x).err) := by
        by_cases h0 : j = 0
        · rw [if_pos h0] at c2 ⊢
          rw [V.setv, if_pos c2]
        · rw [if_neg h0] at c2 ⊢
          rw [V.setv, if_neg (by simp [he1 (by omega)]), if_pos c2]
      refine J.seq ?_
      refine J.region_lit ?_
      refine JL.q rfl rfl rfl (QW.build (idx := []) pl26 z26 rfl .nil rfl rfl rfl rfl) ?_
      refine JL.q rfl rfl rfl (QW.move (.tmp rfl)) ?_
      first | refine JL.store_boxF 1 ty26 (.tmp rfl) rfl (.tmp rfl) (by first | rfl | assumption) (rfl) (rfl) rfl ?_ | refine JL.store_boxF 1 ty26 (.tmp rfl) rfl (.tmp rfl) (by first | rfl | assumption) (rfl) (V.cs_length _ _) rfl ?_ | refine JL.store_boxF 1 ty26 (.tmp rfl) rfl (.tmp rfl) (by first | rfl | assumption) (V.cs_length _ _) (rfl) rfl ?_ | refine JL.store_boxF 1 ty26 (.tmp rfl) rfl (.tmp rfl) (by first | rfl | assumption) (V.cs_length _ _) (V.cs_length _ _) rfl ?_ | refine JL.store_box 1 ty26 (.tmp rfl) rfl (.tmp rfl) (by first | rfl | assumption) rfl rfl rfl rfl ?_ | refine JL.store_box 1 ty26 (.tmp rfl) rfl (.tmp rfl) (by first | rfl | assumption) (V.cs_length _ _) rfl rfl rfl ?_
      refine JL.q rfl rfl rfl (QW.assign (.tmp rfl)) ?_
      refine JL.nil ?_
      refine thenQ.n ?_
      refine J.ret ?_
      refine blkQ.r ?_
      refine thenQ.r ?_
      refine thenQ.r ?_
      refine blkQ.r ?_
      refine thenQ.r ?_
      exact ⟨_, selP [.k, .k, .k, .k] _, _, RetEv.two rfl (by first | exact REv.cell 1 ty26 rfl rfl rfl rfl (.aggL (.cons (.refl _) (.cons (.refl _) (.cons (.refl _) (.cons (.nil true false _) (.cons (.nil true false _) .nil)))))) | exact REv.cell 1 ty26 rfl rfl (take_at (V.cs_length _ _) rfl) (V.cs_length _ _) (.aggL (.cons (.refl _) (.cons (.refl _) (.cons (.refl _) (.cons (.nil true false _) (.cons (.nil true false _) .nil))))))) (REv.tmp rfl (.refl _)), rfl, sel_perm [.k, .k, .k, .k] _, ⟨congrArg Res.ret (setAV_of hbad).symm, rfl⟩⟩
    · skip
      simp at c2
      have he1b : v.err = 0 := by
        by_cases h0 : j = 0
        · rw [if_pos h0] at c2; exact c2
        · exact he1 (by omega)
      have he2b : 1 < j + 1 → x.err = 0 := fun h => by
        rw [if_neg (by omega)] at c2; exact c2
      refine J.skip ?_
      refine blkQ.n ?_
      refine thenQ.n ?_
      refine J.region_lit ?_
      refine JL.q rfl rfl rfl (QW.add (.tmp rfl) .const (by first | exact w64n (by first | rfl | omega | (simp; done)) (by omega) | exact w64 (by omega) | rfl)) ?_
      refine JL.q rfl rfl rfl (QW.move (.tmp rfl)) ?_
      refine JL.nil ?_
      refine thenQ.n ?_
      exact ⟨j + 1, ⟨by omega, fun _ => he1b, he2b⟩, by omega, Wk.re (.cons rfl (.refl _) (.cons rfl (.refl _) (.cons rfl (.refl _) (.cons rfl (.refl _) (.cons rfl (.refl _) (.cons rfl (.refl _) .nil)))))) (Reown.dropN 1 _ rfl) (fun _ h => by first | exact h | simp [h])⟩
  · skip
    obtain rfl : j = 2 := by (simp at c1; omega)
    have hv0 := he1 (by decide)
    have hx0 := he2 (by decide)
    have hfv := V.fine_of hv0
    refine J.exit ?_
    refine thenQ.x ?_
    refine thenQ.x ?_
    refine blkQ.hit ?_
    refine thenQ.n ?_
    refine J.seq ?_
    refine J.region_lit ?_
    refine JL.q rfl rfl rfl (by first | exact QW.load_box 2 ty26 (.tmp rfl) rfl rfl rfl | exact QW.load_box 2 ty26 (.tmp rfl) rfl (take_at (V.cs_length _ _) rfl) (V.cs_length _ _)) ?_
    refine JL.callRF [] gofn77 rfl Lent.nil (fun _ => (.cons (.tmp rfl) .nil)) (clone_ok Vc.self hw) (.inl rfl) fun x32 o32 h32 => ?_
    obtain ⟨kv32, iv32, ok32, oi32, rfl, rfl, hV32⟩ := h32
    refine JL.alloc z26 rfl rfl fun b11 => ?_
    first | refine JL.store_boxF 0 ty26 (.tmp rfl) rfl (.tmp rfl) (by first | rfl | assumption) (rfl) (rfl) rfl ?_ | refine JL.store_boxF 0 ty26 (.tmp rfl) rfl (.tmp rfl) (by first | rfl | assumption) (rfl) (V.cs_length _ _) rfl ?_ | refine JL.store_boxF 0 ty26 (.tmp rfl) rfl (.tmp rfl) (by first | rfl | assumption) (V.cs_length _ _) (rfl) rfl ?_ | refine JL.store_boxF 0 ty26 (.tmp rfl) rfl (.tmp rfl) (by first | rfl | assumption) (V.cs_length _ _) (V.cs_length _ _) rfl ?_ | refine JL.store_box 0 ty26 (.tmp rfl) rfl (.tmp rfl) (by first | rfl | assumption) rfl rfl rfl rfl ?_ | refine JL.store_box 0 ty26 (.tmp rfl) rfl (.tmp rfl) (by first | rfl | assumption) (V.cs_length _ _) rfl rfl rfl ?_
    refine JL.nil ?_
    refine thenQ.n ?_
    refine J.seq ?_
    refine J.region_lit ?_
    refine JL.q rfl rfl rfl (QW.assign (.tmp rfl)) ?_
    refine JL.nil ?_
    refine thenQ.n ?_
    refine J.seq ?_
    refine J.seq ?_
    refine J.region_lit ?_
    refine JL.q rfl rfl rfl (QW.move (.tmp rfl)) ?_
    refine JL.q rfl rfl rfl (by first | exact QW.len_slE sl39 (.tmp rfl) (keysAV_length _) | exact QW.len_slE sl39 (.tmp rfl) (V.css_length _ _) | exact QW.len_slE sl39 (.tmp rfl) (StT.css_length _) | exact QW.len_sl sl39 (.tmp rfl) | exact QW.len_nil sl39 (.tmp rfl)) ?_
    refine JL.q rfl rfl rfl (QW.move .const) ?_
    refine JL.nil ?_
    refine thenQ.n ?_
    refine J.block ?_
    refine J.reown ((Reown.rot3 _ _ _ _ _).trans (Reown.nilGrpE _)) ?_
    refine J.loopK (ι := Nat × At) [1, 5, 6, 11, 33, 34] (fun ⟨j, z⟩ => [(35, .c (.int .i64 (j : Int))), (12, .c (.pointer (some ⟨z.b, z.off, none⟩)))]) (fun ⟨j, z⟩ oo => List.set (List.set (List.set (List.set oo 3 (.box z.b (holeC z z.u z.kv z.iv))) 4 (z.ok)) 5 (z.oi)) 6 (z.ctx)) (fun ⟨j, z⟩ => j ≤ p.length ∧ z.Ok b11 ∧ v.set p x = plugR z.plug (z.u.set (p.drop j) x)) (fun ⟨j, z⟩ => p.length - j) ⟨0, ⟨b11, 0, [], [], v, kv32, iv32, ok32, oi32, .grp [], id⟩⟩ (⟨Nat.zero_le _, ⟨rfl, hV32, Law.root b11, hfv, hw⟩, (plugR_id _ V.set_nil).symm⟩) (Wk.re (.cons rfl (.refl _) (.cons rfl (.refl _) (.cons rfl (.refl _) (.cons rfl (.refl _) (.cons rfl (.refl _) (.cons rfl (.refl _) (.cons rfl (.refl _) (.cons rfl (.refl _) .nil)))))))) (Reown.ofEq rfl) (fun _ h => by first | exact h | simp [h])) ?_
    intro ⟨j, z⟩ ⟨hj, hz, hset⟩
    refine J.conv (by (try simp only [id_eq, stepsO, List.map_cons, List.map_nil, valO, nthO, curO, mrg, List.reverse_cons, List.reverse_nil, List.nil_append, List.cons_append, List.append_nil, List.getElem?_cons_zero, List.getElem?_cons_succ, Option.map_some, Option.getD_some, List.set_cons_zero, List.set_cons_succ, AV.cellsOf, splice_zero, splice_succ, Nat.zero_add, Nat.reduceAdd]); rfl) ?_
    refine J.seq ?_
    refine J.region_lit ?_
    refine JL.q rfl rfl rfl (QW.lss (.tmp rfl) (.tmp rfl)) ?_
    refine JL.nil ?_
    refine thenQ.n ?_
    refine J.seq ?_
    refine J.cond (.tmp rfl) (fun c2 => ?_) (fun c2 => ?_)
    · skip
      have hlt : j < p.length := by simpa using c2
      have hsw := hpw _ (List.getElem_mem hlt)
      refine J.skip ?_
      refine thenQ.n ?_
      refine J.seq ?_
      refine J.block ?_
      refine J.seq ?_
      refine J.region_lit ?_
      refine JL.q rfl rfl rfl (QW.move (.tmp rfl)) ?_
      refine JL.q rfl rfl rfl (QW.index_sl sl39 ty48 rfl (.tmp rfl) (.tmp rfl) (by first | rfl | omega | (simp; done)) (by exact StT.css_getE hlt)) ?_
      refine JL.q rfl rfl rfl (by first | exact QW.load_ref ty48 (.tmp rfl) rfl rfl | exact QW.load_ref ty48 (.tmp rfl) (take_at0 (rfl) rfl) (rfl)) ?_
      refine JL.alloc z48 rfl rfl fun b14 => ?_
      refine JL.q rfl rfl rfl (QW.assign (.tmp rfl)) ?_
      first | refine JL.store_boxF 0 ty48 (.tmp rfl) rfl (.tmp rfl) (by first | rfl | assumption) (rfl) (rfl) rfl ?_ | refine JL.store_boxF 0 ty48 (.tmp rfl) rfl (.tmp rfl) (by first | rfl | assumption) (rfl) (rfl) rfl ?_ | refine JL.store_boxF 0 ty48 (.tmp rfl) rfl (.tmp rfl) (by first | rfl | assumption) (rfl) (rfl) rfl ?_ | refine JL.store_boxF 0 ty48 (.tmp rfl) rfl (.tmp rfl) (by first | rfl | assumption) (rfl) (rfl) rfl ?_ | refine JL.store_box 0 ty48 (.tmp rfl) rfl (.tmp rfl) (by first | rfl | assumption) rfl rfl rfl rfl ?_ | refine JL.store_box 0 ty48 (.tmp rfl) rfl (.tmp rfl) (by first | rfl | assumption) (rfl) rfl rfl rfl ?_
      refine JL.nil ?_
      refine thenQ.n ?_
      refine J.seq ?_
      refine J.region_tailK 9 mixed (by kernel_rfl) (by kernel_rfl) (by kernel_rfl) rfl ?_
      refine .cons [] rfl rfl rfl (.q rfl (QW.move (.tmp rfl))) ?_
      refine .cons [41] rfl rfl rfl (.q rfl (QW.nil_ptr (.tmp rfl))) ?_
      refine .cons [42] rfl rfl rfl (.q rfl (QW.load_box 4 ty26 (.tmp rfl) rfl (hole_load hz.off) rfl)) ?_
      refine .cons [] rfl rfl rfl (.q rfl (by first | exact QW.load_box 0 ty48 (.tmp rfl) rfl rfl rfl | exact QW.load_box 0 ty48 (.tmp rfl) rfl (take_at (rfl) rfl) (rfl))) ?_
      refine .cons [43, 44] rfl rfl rfl (.q rfl (QW.callLF [.k, .k, .k, .k, .k, .l, .l] gofn76 (Lent.cons (hz.tr.lentK) (Lent.cons (hz.tr.lentI) Lent.nil)) rfl rfl (fun _ => (.cons (Ev.le (.tmp rfl) (V.raw_le (by simp) (by simp))) (.cons (.tmp rfl) .nil))) (find_ok (fr := false) (v := z.u) (s := p[j]'hlt) Vc.self Sc.self hz.fine.part (hpw _ (List.getElem_mem hlt))) (fndAV_fresh _ _))) ?_
      refine .cons [45] rfl rfl rfl (.q rfl (QW.move (.tmp rfl))) ?_
      refine .cons [40] rfl rfl rfl (.q rfl (QW.extract (.tmp rfl) rfl)) ?_
      refine .cons [40] rfl rfl rfl (.q rfl (QW.extract (.tmp rfl) rfl)) ?_
      refine .cons [46] rfl rfl rfl (.q rfl (QW.assign (.tmp rfl))) ?_
      refine .nil ?_
      refine JL.q rfl rfl rfl (QW.assign (.tmp rfl)) ?_
      refine JL.nil ?_
      refine thenQ.n ?_
      refine J.cutK (ι := V × Nat × Int × Value × Value × Own × Own) [1, 5, 6, 11, 12, 13, 14, 33, 34, 35, 36, 37, 38, 39, 40, 41, 42, 43, 44, 45, 46, 47] (fun ⟨u2, i2, e2, kv2, iv2, ok2, oi2⟩ => [(15, .c (.int .i64 (i2 : Int))), (16, .c (.int .i64 e2))]) (fun ⟨u2, i2, e2, kv2, iv2, ok2, oi2⟩ oo => List.set (List.set (List.set oo 4 (.box z.b (holeC z u2 kv2 iv2))) 5 (ok2)) 6 (oi2)) (fun ⟨u2, i2, e2, kv2, iv2, ok2, oi2⟩ => z.u.stp (p[j]'hlt) (decide (p.drop (j + 1) = [])) = (u2, i2, e2) ∧ VTr u2 kv2 iv2 ok2 oi2) ?_ ?_
      · skip
        refine J.seq ?_
        refine J.region_lit ?_
        refine JL.q rfl rfl rfl (QW.move (.tmp rfl)) ?_
        refine JL.q rfl rfl rfl (QW.neq (.tmp rfl) .const) ?_
        refine JL.q rfl rfl rfl (QW.move (.tmp rfl)) ?_
        refine JL.g rfl rfl rfl rfl rfl (fun hg => (QW.move (.tmp rfl))) ?_
        refine JL.g rfl rfl rfl rfl rfl (fun hg => (QW.move (.tmp rfl))) ?_
        refine JL.g rfl rfl rfl rfl rfl (fun hg => (by first | exact QW.len_slE sl39 (.when rfl hg) (keysAV_length _) | exact QW.len_slE sl39 (.when rfl hg) (V.css_length _ _) | exact QW.len_slE sl39 (.when rfl hg) (StT.css_length _) | exact QW.len_sl sl39 (.when rfl hg) | exact QW.len_nil sl39 (.when rfl hg))) ?_
        refine JL.g rfl rfl rfl rfl rfl (fun hg => (QW.sub (.when rfl hg) .const (by first | exact w64n (by first | rfl | omega | (simp; done)) (by omega) | exact w64 (by omega) | rfl))) ?_
        refine JL.g rfl rfl rfl rfl rfl (fun hg => (QW.eql (.when rfl hg) (.when rfl hg))) ?_
        refine JL.q rfl rfl rfl (QW.pick_and (.tmp rfl) (.tmp rfl)) ?_
        refine JL.nil ?_
        refine thenQ.n ?_
        refine J.cond (.tmp rfl) (fun c3 => ?_) (fun c3 => ?_)
        · skip
          have he0 : (z.u.fnd (p[j]'hlt)).2 ≠ 0 := by (simp at c3; exact c3.1)
          have hlast : p.drop (j + 1) = [] := by (simp at c3; exact List.drop_of_length_le (by omega))
          refine J.region_lit ?_
          refine JL.q rfl rfl rfl (QW.move (.tmp rfl)) ?_
          refine JL.q rfl rfl rfl (by first | exact QW.load_box 0 ty48 (.tmp rfl) rfl rfl rfl | exact QW.load_box 0 ty48 (.tmp rfl) rfl (take_at (rfl) rfl) (rfl)) ?_
          refine JL.q rfl rfl rfl (QW.move (.tmp rfl)) ?_
          refine JL.q rfl rfl rfl (QW.move (.tmp rfl)) ?_
          refine JL.callRF [.k, .k, .k, .k, .p, .p, .p] gofn80 rfl Lent.nil (fun _ => (.cons (.tmp rfl) (.cons (.tmp rfl) (.cons (.tmp rfl) (.cons (.tmp rfl) .nil))))) (grow_ok (z := z) (s := p[j]'hlt) (i := (z.u.fnd (p[j]'hlt)).1) (e := (z.u.fnd (p[j]'hlt)).2) Sc.self hz.off hz.tr hz.fine.part hz.wf (hpw _ (List.getElem_mem hlt)) rfl he0) (.inl rfl) fun x62 o62 h62 => ?_
          obtain ⟨kv62, iv62, ok62, oi62, rfl, rfl, hV62⟩ := h62
          refine JL.q rfl rfl rfl (QW.move (.tmp rfl)) ?_
          refine JL.q rfl rfl rfl (QW.extract (.tmp rfl) rfl) ?_
          refine JL.q rfl rfl rfl (QW.extract (.tmp rfl) rfl) ?_
          refine JL.q rfl rfl rfl (QW.assign (.tmp rfl)) ?_
          refine JL.q rfl rfl rfl (QW.assign (.tmp rfl)) ?_
          refine JL.nil ?_
          refine thenQ.n ?_
          exact ⟨⟨_, _, _, kv62, iv62, ok62, oi62⟩, ⟨by rw [hlast]; rfl, hV62⟩, Wk.re (.cons rfl (.refl _) (.cons rfl (.refl _) (.cons rfl (.refl _) (.cons rfl (.refl _) (.cons rfl (.refl _) (.cons rfl (.refl _) (.cons rfl (.refl _) (.cons rfl (.refl _) (.cons rfl (.refl _) (.cons rfl (.refl _) (.cons rfl (.refl _) (.cons rfl (.refl _) (.cons rfl (.refl _) (.cons rfl (.refl _) (.cons rfl (.refl _) (.cons rfl (.refl _) (.cons rfl (.refl _) (.cons rfl (.refl _) (.cons rfl (.refl _) (.cons rfl (.refl _) (.cons rfl (.refl _) (.cons rfl (.refl _) (.cons rfl (.refl _) (.cons rfl (.refl _) .nil)))))))))))))))))))))))) (Reown.refl _) (fun _ h => by first | exact h | simp [h])⟩
        · skip
          have hno : (z.u.fnd (p[j]'hlt)).2 = 0 ∨ p.drop (j + 1) ≠ [] := by
            simp at c3
            by_cases h0 : (z.u.fnd (p[j]'hlt)).2 = 0
            · exact .inl h0
            · refine .inr fun hd => ?_
              have := c3 h0
              rw [List.drop_eq_nil_iff] at hd
              omega
          refine J.skip ?_
          refine thenQ.n ?_
          exact ⟨⟨z.u, (z.u.fnd (p[j]'hlt)).1, (z.u.fnd (p[j]'hlt)).2, z.kv, z.iv, z.ok, z.oi⟩, ⟨by unfold V.stp; by_cases h0 : (z.u.fnd (p[j]'hlt)).2 = 0; (rw [if_pos h0, h0]); (rw [if_neg h0, if_neg (by simpa using hno.resolve_left h0)]), hz.tr⟩, Wk.re (.cons rfl (.refl _) (.cons rfl (.refl _) (.cons rfl (.refl _) (.cons rfl (.refl _) (.cons rfl (.refl _) (.cons rfl (.refl _) (.cons rfl (.refl _) (.cons rfl (.refl _) (.cons rfl (.refl _) (.cons rfl (.refl _) (.cons rfl (.refl _) (.cons rfl (.refl _) (.cons rfl (.refl _) (.cons rfl (.refl _) (.cons rfl (.refl _) (.cons rfl (.refl _) (.cons rfl (.refl _) (.cons rfl (.refl _) (.cons rfl (.refl _) (.cons rfl (.refl _) (.cons rfl (.refl _) (.cons rfl (.refl _) (.cons rfl (.refl _) (.cons rfl (.refl _) .nil)))))))))))))))))))))))) (Reown.refl _) (fun _ h => by first | exact h | simp [h])⟩
      · intro ⟨u2, i2, e2, kv2, iv2, ok2, oi2⟩ ⟨hst, hV2⟩
        refine J.conv (by (try simp only [id_eq, stepsO, List.map_cons, List.map_nil, valO, nthO, curO, mrg, List.reverse_cons, List.reverse_nil, List.nil_append, List.cons_append, List.append_nil, List.getElem?_cons_zero, List.getElem?_cons_succ, Option.map_some, Option.getD_some, List.set_cons_zero, List.set_cons_succ, AV.cellsOf, splice_zero, splice_succ, Nat.zero_add, Nat.reduceAdd]); rfl) ?_
        refine J.seq ?_
        refine J.seq ?_
        refine J.region_lit ?_
        refine JL.q rfl rfl rfl (QW.move (.tmp rfl)) ?_
        refine JL.q rfl rfl rfl (QW.neq (.tmp rfl) .const) ?_
        refine JL.nil ?_
        refine thenQ.n ?_
        refine J.cond (.tmp rfl) (fun c3 => ?_) (fun c3 => ?_)
        · skip
          have he2 : e2 ≠ 0 := by simpa using c3
          refine J.seq ?_
          refine J.region_lit ?_
          refine JL.q rfl rfl rfl (QW.build (idx := []) pl26 z26 rfl .nil rfl rfl rfl rfl) ?_
          refine JL.q rfl rfl rfl (QW.move (.tmp rfl)) ?_
          first | refine JL.store_boxF 1 ty26 (.tmp rfl) rfl (.tmp rfl) (by first | rfl | assumption) (rfl) (rfl) rfl ?_ | refine JL.store_boxF 1 ty26 (.tmp rfl) rfl (.tmp rfl) (by first | rfl | assumption) (rfl) (V.cs_length _ _) rfl ?_ | refine JL.store_boxF 1 ty26 (.tmp rfl) rfl (.tmp rfl) (by first | rfl | assumption) (V.cs_length _ _) (rfl) rfl ?_ | refine JL.store_boxF 1 ty26 (.tmp rfl) rfl (.tmp rfl) (by first | rfl | assumption) (V.cs_length _ _) (V.cs_length _ _) rfl ?_ | refine JL.store_box 1 ty26 (.tmp rfl) rfl (.tmp rfl) (by first | rfl | assumption) rfl rfl rfl rfl ?_ | refine JL.store_box 1 ty26 (.tmp rfl) rfl (.tmp rfl) (by first | rfl | assumption) (V.cs_length _ _) rfl rfl rfl ?_
          refine JL.q rfl rfl rfl (QW.assign (.tmp rfl)) ?_
          refine JL.nil ?_
          refine thenQ.n ?_
          refine J.ret ?_
          refine thenQ.r ?_
          refine blkQ.r ?_
          refine thenQ.r ?_
          refine thenQ.r ?_
          refine blkQ.r ?_
          refine thenQ.r ?_
          exact ⟨_, selP [.k, .k, .k, .k, .k, .k, .k, .k] _, _, RetEv.two rfl (by first | exact REv.cell 1 ty26 rfl rfl rfl rfl (.aggL (.cons (.refl _) (.cons (.refl _) (.cons (.refl _) (.cons (.nil true false _) (.cons (.nil true false _) .nil)))))) | exact REv.cell 1 ty26 rfl rfl (take_at (V.cs_length _ _) rfl) (V.cs_length _ _) (.aggL (.cons (.refl _) (.cons (.refl _) (.cons (.refl _) (.cons (.nil true false _) (.cons (.nil true false _) .nil))))))) (REv.tmp rfl (.refl _)), rfl, sel_perm [.k, .k, .k, .k, .k, .k, .k, .k] _, ⟨congrArg Res.ret (setAV_of (setv_err hv0 hx0 (e := e2) (w := .nil) (by rw [hset, drop_at hlt, V.stp_no hst he2]; simp [plugR, he2]) he2)).symm, rfl⟩⟩
        · skip
          obtain rfl : e2 = 0 := by simpa using c3
          obtain ⟨hlt2, huw2, hfk, hset3⟩ := V.stp_yes (x := x) hz.fine hz.wf hsw hst
          refine J.skip ?_
          refine thenQ.n ?_
          obtain ⟨ci, ui, o2, q1, q2, q3, q4, q5, q6⟩ := hV2.is.inv
          rw [V.css_length] at q2
          refine J.reown (Reown.split2 (i := 6) rfl q6) ?_
          refine J.lay 6 rfl (fun a0 hv hx => absurd hlt2 (by rw [← q2, hx]; simp)) fun b2 cap sp hiv hcap hsz5 hfl => ?_
          subst hiv
          refine J.region_lit ?_
          refine JL.q rfl rfl rfl (QW.move (.tmp rfl)) ?_
          refine JL.q rfl rfl rfl (QW.nil_ptr (.tmp rfl)) ?_
          refine JL.q rfl rfl rfl (QW.field_ptr fo26_4 (.tmp rfl) rfl) ?_
          refine JL.q rfl rfl rfl (QW.load_box1 4 ty24 (.tmp rfl) rfl ((hole_at hz.off 4 (by decide)).trans rfl)) ?_
          refine JL.q rfl rfl rfl (QW.move (.tmp rfl)) ?_
          refine JL.q rfl rfl rfl (QW.index_c (m := i2) sl24 ty26 (.tmp rfl) (.tmp rfl) rfl (by omega)) ?_
          refine JL.q rfl rfl rfl (QW.assign (.tmp rfl)) ?_
          refine JL.nil ?_
          refine blkQ.n ?_
          refine thenQ.n ?_
          obtain ⟨kv3, iv3, ok3, oi3, ob, oa, u1, u3, e1, e3, e4, e5, e6, e7, e8, e9, e10⟩ := kids_at hlt2 q2 q3 q1 q4 q5
          refine J.reown (Reown.cons (Reown.cons (Reown.cons (Reown.cons (Reown.step e10))))) ?_
          refine J.region_lit ?_
          refine JL.q rfl rfl rfl (QW.add (.tmp rfl) .const (by first | exact w64n (by first | rfl | omega | (simp; done)) (by omega) | exact w64 (by omega) | rfl)) ?_
          refine JL.q rfl rfl rfl (QW.move (.tmp rfl)) ?_
          refine JL.nil ?_
          refine thenQ.n ?_
          exact ⟨⟨j + 1, ⟨b2, 0 + i2 * 5, (ci.take i2).flatten, (ci.drop (i2 + 1)).flatten ++ sp.map AV.c, u2.items[i2], kv3, iv3, ok3, oi3, .grp [.box z.b (holeC z u2 kv2 (sv b2 0 ci.length (cap + 1))), ok2, ob, oa, z.ctx], fun w => z.plug (u2.setAt i2 w)⟩⟩, ⟨hlt, ⟨by rw [flatten_length (sz := 5) _ (fun x hx => q3 x (List.mem_of_mem_take hx)), List.length_take, Nat.min_eq_left (by omega)]; exact (Nat.zero_add _).symm, e3, hz.law.into huw2 hV2.k1 hV2.i1 hV2.ks hlt2 q2 q3 rfl hcap hfl e4 e5 e6 e7 e8 e9, hfk, huw2.kid (List.getElem_mem hlt2)⟩, by rw [hset, drop_at hlt, hset3, plugR_if]⟩, by show p.length - (j + 1) < p.length - j; omega, Wk.re (.cons rfl (.refl _) (.cons rfl (.refl _) (.cons rfl (.refl _) (.cons rfl (.refl _) (.cons rfl (.refl _) (.cons rfl (.refl _) (.cons rfl (.refl _) (.cons rfl (.refl _) .nil)))))))) ((Reown.dropN 1 _ rfl).trans (Reown.ofEq (by show [_, _, _, Own.box b2 _, _, _, _] = [_, _, _, Own.box b2 _, _, _, _]; rw [cells_at e1]; rfl))) (fun _ h => by first | exact h | simp [h])⟩
    · skip
      have hge : p.length ≤ j := by simpa using c2
      rw [List.drop_of_length_le hge] at hset
      have hset2 : v.set p x = (z.plug x, 0) := hset
      have hww : (z.plug x).wf := by have := V.set_wf hw hfv hpw hxw; rwa [hset2] at this
      refine J.exit ?_
      refine thenQ.x ?_
      refine thenQ.x ?_
      refine blkQ.hit ?_
      refine thenQ.n ?_
      refine J.seq ?_
      refine J.region_lit ?_
      refine JL.q rfl rfl rfl (QW.move (.tmp rfl)) ?_
      refine JL.q rfl rfl rfl (by first | exact QW.load_box 1 ty26 (.tmp rfl) rfl rfl rfl | exact QW.load_box 1 ty26 (.tmp rfl) rfl (take_at (V.cs_length _ _) rfl) (V.cs_length _ _)) ?_
      refine JL.callRF [] gofn77 rfl Lent.nil (fun _ => (.cons (.tmp rfl) .nil)) (clone_ok Vc.self hxw) (.inl rfl) fun x78 o78 h78 => ?_
      obtain ⟨kv78, iv78, ok78, oi78, rfl, rfl, hV78⟩ := h78
      refine JL.q rfl rfl rfl (QW.nil_ptr (.tmp rfl)) ?_
      refine JL.store_box 3 ty26 (.tmp rfl) rfl (.tmp rfl) rfl rfl (by rw [hole_len _ _ _ _ hz.off]; exact Nat.ble_eq_true_of_le (by omega)) (hole_put hz.off) rfl ?_
      refine JL.nil ?_
      refine thenQ.n ?_
      refine J.seq ?_
      refine J.seq ?_
      obtain ⟨kw, iw, okw, oiw, hW, hR⟩ := hz.law x kv78 iv78 ok78 oi78 hxw hV78
      refine J.reown (Reown.cons (Reown.cons (Reown.cons (Reown.fin hR)))) ?_
      refine J.region_lit ?_
      refine JL.q rfl rfl rfl (by first | exact QW.load_box 3 ty26 (.tmp rfl) rfl rfl rfl | exact QW.load_box 3 ty26 (.tmp rfl) rfl (take_at (V.cs_length _ _) rfl) (V.cs_length _ _)) ?_
      refine JL.q rfl rfl rfl (QW.callLF [.k, .k, .k, .k, .l, .l] gofn24 (Lent.cons (hW.lentK) (Lent.cons (hW.lentI) Lent.nil)) rfl rfl (fun _ => (.cons (Ev.le (.tmp rfl) (V.raw_le (by simp) (by simp))) .nil)) (check_ok (fr := false) (v := z.plug x) Vc.self hww) (Fl.c _)) ?_
      refine JL.q rfl rfl rfl (QW.assign (.tmp rfl)) ?_
      refine JL.nil ?_
      refine thenQ.n ?_
      refine J.seq ?_
      refine J.region_lit ?_
      refine JL.q rfl rfl rfl (QW.move (.tmp rfl)) ?_
      refine JL.q rfl rfl rfl (QW.neq (.tmp rfl) .const) ?_
      refine JL.nil ?_
      refine thenQ.n ?_
      refine J.cond (.tmp rfl) (fun c3 => ?_) (fun c3 => ?_)
      · skip
        have hbd : (z.plug x).err ≠ 0 := by simpa using c3
        refine J.seq ?_
        refine J.region_lit ?_
        refine JL.q rfl rfl rfl (QW.build (idx := []) pl26 z26 rfl .nil rfl rfl rfl rfl) ?_
        refine JL.q rfl rfl rfl (QW.move (.tmp rfl)) ?_
        first | refine JL.store_boxF 0 ty26 (.tmp rfl) rfl (.tmp rfl) (by first | rfl | assumption) (rfl) (rfl) rfl ?_ | refine JL.store_boxF 0 ty26 (.tmp rfl) rfl (.tmp rfl) (by first | rfl | assumption) (rfl) (V.cs_length _ _) rfl ?_ | refine JL.store_boxF 0 ty26 (.tmp rfl) rfl (.tmp rfl) (by first | rfl | assumption) (V.cs_length _ _) (rfl) rfl ?_ | refine JL.store_boxF 0 ty26 (.tmp rfl) rfl (.tmp rfl) (by first | rfl | assumption) (V.cs_length _ _) (V.cs_length _ _) rfl ?_ | refine JL.store_box 0 ty26 (.tmp rfl) rfl (.tmp rfl) (by first | rfl | assumption) rfl rfl rfl rfl ?_ | refine JL.store_box 0 ty26 (.tmp rfl) rfl (.tmp rfl) (by first | rfl | assumption) (V.cs_length _ _) rfl rfl rfl ?_
        refine JL.q rfl rfl rfl (QW.assign (.tmp rfl)) ?_
        refine JL.nil ?_
        refine thenQ.n ?_
        refine J.ret ?_
        refine thenQ.r ?_
        exact ⟨_, selP [.k, .k, .k, .k, .k, .k] _, _, RetEv.two rfl (by first | exact REv.cell 0 ty26 rfl rfl rfl rfl (.aggL (.cons (.refl _) (.cons (.refl _) (.cons (.refl _) (.cons (.nil true false _) (.cons (.nil true false _) .nil)))))) | exact REv.cell 0 ty26 rfl rfl (take_at (V.cs_length _ _) rfl) (V.cs_length _ _) (.aggL (.cons (.refl _) (.cons (.refl _) (.cons (.refl _) (.cons (.nil true false _) (.cons (.nil true false _) .nil))))))) (REv.tmp rfl (.refl _)), rfl, sel_perm [.k, .k, .k, .k, .k, .k] _, ⟨congrArg Res.ret (setAV_of (setv_bad hv0 hx0 hset2 hbd)).symm, rfl⟩⟩
      · skip
        have hgd : (z.plug x).err = 0 := by simpa using c3
        refine J.skip ?_
        refine thenQ.n ?_
        refine J.seq ?_
        refine J.close 4 rfl hW.ks.clos rfl (fun _ h => by cases h) ?_
        refine J.close 4 rfl hW.is.clos rfl (fun _ h => by cases h) ?_
        refine J.region_lit ?_
        refine JL.q rfl rfl rfl (by first | exact QW.load_box 3 ty26 (.tmp rfl) rfl rfl rfl | exact QW.load_box 3 ty26 (.tmp rfl) rfl (take_at (V.cs_length _ _) rfl) (V.cs_length _ _)) ?_
        first | refine JL.store_boxF 0 ty26 (.tmp rfl) rfl (.tmp rfl) (by first | rfl | assumption) (rfl) (rfl) rfl ?_ | refine JL.store_boxF 0 ty26 (.tmp rfl) rfl (.tmp rfl) (by first | rfl | assumption) (rfl) (V.cs_length _ _) rfl ?_ | refine JL.store_boxF 0 ty26 (.tmp rfl) rfl (.tmp rfl) (by first | rfl | assumption) (V.cs_length _ _) (rfl) rfl ?_ | refine JL.store_boxF 0 ty26 (.tmp rfl) rfl (.tmp rfl) (by first | rfl | assumption) (V.cs_length _ _) (V.cs_length _ _) rfl ?_ | refine JL.store_box 0 ty26 (.tmp rfl) rfl (.tmp rfl) (by first | rfl | assumption) rfl rfl rfl rfl ?_ | refine JL.store_box 0 ty26 (.tmp rfl) rfl (.tmp rfl) (by first | rfl | assumption) (V.cs_length _ _) rfl rfl rfl ?_
        refine JL.q rfl rfl rfl (QW.assign .const) ?_
        refine JL.nil ?_
        refine thenQ.n ?_
        refine J.ret ?_
        exact ⟨_, selP [.k, .k, .k, .k] _, _, RetEv.two rfl (by first | exact REv.cell 0 ty26 rfl rfl rfl rfl (V.raw_le (by simp) (by simp)) | exact REv.cell 0 ty26 rfl rfl (take_at (V.cs_length _ _) rfl) (V.cs_length _ _) (V.raw_le (by simp) (by simp))) (REv.tmp rfl (.refl _)), rfl, sel_perm [.k, .k, .k, .k] _, ⟨congrArg Res.ret (setAV_of (setv_ok hv0 hx0 hset2 hgd)).symm, rfl⟩⟩
end Go.Proofs.Ytkiankpmkglhcaa.J

/- Walks: the page sets a part of a value. -/
namespace Go.Proofs.Ytkiankpmkglhcaa.J
open Go Go.RowKit
set_option linter.unusedVariables false
set_option linter.unusedSimpArgs false
set_option maxRecDepth 10000
set_option maxHeartbeats 4000000
def SetR (w : V × Int) : AV → List Own → Prop := fun x o => ∃ kw iw okw oiw, x = .tup [.agg (w.1.raw kw iw), .c (.int .i64 w.2)] ∧ o = [okw, oiw] ∧ VTr w.1 kw iw okw oiw
theorem SetR.no {w : V × Int} {e : Int} (h : w = (.nil, e)) : SetR w (.tup [.agg nilC, .c (.int .i64 e)]) [.grp [], .grp []] := ⟨_, _, _, _, by rw [h]; rfl, rfl, by rw [h]; exact nil_VTr⟩
theorem SetR.yes {w : V × Int} {u : V} {kw iw : Value} {okw oiw : Own} {ys : List AV} {e : Int} (h : w = (u, e)) (hy : ys = u.raw kw iw) (hV : VTr u kw iw okw oiw) : SetR w (.tup [.agg ys, .c (.int .i64 e)]) [okw, oiw] := ⟨kw, iw, okw, oiw, by rw [h, hy], rfl, by rw [h]; exact hV⟩
theorem Reown.hd2 {a b : Own} {c l : List Own} (h : Reown [a, b] c) : Reown (a :: b :: l) (c ++ l) :=
  (Reown.perm (List.perm_append_comm (l₁ := [a, b]) (l₂ := l))).trans ((Reown.left (c := l) h).trans (Reown.perm List.perm_append_comm))
theorem Reown.put (arrI ok3 oi3 ob oa okx oix : Own) : Reown [arrI, ok3, oi3, ob, oa, okx, oix] [.grp [arrI, .grp [ob, .grp [.grp [okx, oix], oa]]]] := by
  refine ⟨fun y => by simp only [fps_cons, fps_nil, fp_grp, List.count_append, List.count_nil]; omega, fun w A h => ?_⟩
  simp only [List.forall_mem_cons, ok_grp, List.not_mem_nil, false_implies, implies_true, and_true] at h ⊢
  obtain ⟨q1, q2, q3, q4, q5, q6, q7⟩ := h
  exact ⟨q1, q4, ⟨q6, q7⟩, q5⟩
theorem VTr.setAt {u x : V} {kv iv kx ix : Value} {ok ob oa okx oix : Own} {cs : List (List AV)} {u1 u3 : List Value} {i : Nat} (huw : u.wf) (hk1 : kv.oneCell' = true) (hi1 : iv.oneCell' = true) (hks : Tr (.sl true false eStr (keysAV u.keys)) kv ok)
    (hlt : i < u.items.length) (hcl : cs.length = u.items.length) (h5 : ∀ x ∈ cs, x.length = 5) (t1 : TrL (V.css true (u.items.take i)).flatten u1 ob) (t3 : TrL (V.css true (u.items.drop (i + 1))).flatten u3 oa) (f1 : (cs.take i).flatten = u1.map AV.c) (f3 : (cs.drop (i + 1)).flatten = u3.map AV.c)
    (a1 : u1.all (·.oneCell') = true) (a3 : u3.all (·.oneCell') = true) (hx : VTr x kx ix okx oix) : VTr (u.setAt i x) kv iv ok (.grp [.arr iv eV (cs.set i (x.raw kx ix)), .grp [ob, .grp [.grp [okx, oix], oa]]]) := by
  have hclt : i < cs.length := by omega
  have hflat : (cs.set i (x.raw kx ix)).flatten = (u1 ++ (x.vals kx ix ++ u3)).map AV.c := by
    rw [set_parts hclt, List.flatten_append, List.flatten_cons, f1, f3, V.raw_eq, List.map_append, List.map_append]
  have h5' : ∀ z ∈ cs.set i (x.raw kx ix), z.length = 5 := fun z hz => (List.mem_or_eq_of_mem_set hz).elim (h5 z) fun e => e ▸ rfl
  have hits : u.items.length * 80 ≤ reach := by obtain ⟨k, b, t, ks, is⟩ := u; exact huw.inv.2.2.2.2.1
  have htl : TrL (V.css true (u.items.set i x)).flatten (u1 ++ (x.vals kx ix ++ u3)) (.grp [ob, .grp [.grp [okx, oix], oa]]) := by
    rw [set_parts hlt, V.css_append, List.flatten_append, V.css, List.flatten_cons]
    exact t1.append (hx.trL.append t3 (.refl _)) (.refl _)
  have hIt : Tr (.sl true false eV (V.css true (u.items.set i x))) iv (.grp [.arr iv eV (cs.set i (x.raw kx ix)), .grp [ob, .grp [.grp [okx, oix], oa]]]) :=
    items_tr hflat (by simp [hcl]) h5' (by rw [List.all_append, List.all_append, a1, hx.ones, a3]; rfl) (by simpa using hits) htl
  exact ⟨hk1, hi1, hks, hIt⟩
theorem fnd_key {v : V} {s : StT} {i : Nat} (h : v.fnd s = (i, 71)) (hp : partOk v = true) (hk : s.isKey = true) (h5 : v.kind = 5) : ∀ j (hj : j < v.keys.length), (Op.bytesLess s.key v.keys[j] = true ↔ i ≤ j) := by
  have hs := keysOk_sorted (partOk_rec hp h5).2
  unfold V.fnd at h
  rw [if_pos hk, if_pos h5] at h
  have hi : low v.keys s.key = i := congrArg Prod.fst h
  have hn : v.keys[low v.keys s.key]? ≠ some s.key := fun hh => by
    have := congrArg Prod.snd h
    simp only [if_pos hh] at this
    cases this
  intro j hj
  constructor
  · intro hl
    rcases Nat.lt_or_ge j i with h1 | h1
    · have := low_lt hj (by omega : j < low v.keys s.key)
      rw [less_asym this] at hl; cases hl
    · exact h1
  · intro h1
    have h2 := low_ge hs hj (s := s.key) (by omega)
    rcases less_tri v.keys[j] s.key with h3 | h3 | h3
    · rw [h3] at h2; cases h2
    · have := low_eq hs hj h3
      rw [this] at hn
      exact absurd (by rw [List.getElem?_eq_getElem hj, h3]) hn
    · exact h3
end Go.Proofs.Ytkiankpmkglhcaa.J

