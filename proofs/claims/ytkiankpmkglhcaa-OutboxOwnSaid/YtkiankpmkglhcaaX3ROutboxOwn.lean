/- Texts of this proof, laid together. -/
import Derived.Test.YtkiankpmkglhcaaX2ROutboxOwn
import Derived.Test.YtkiankpmkglhcaaProg
import Derived.KernelRfl
/- Values as plain data: their cells, what the page says of them. -/
namespace Go.Proofs.Ytkiankpmkglhcaa.J
open Go Go.RowKit
set_option linter.unusedVariables false
set_option linter.unusedSimpArgs false

abbrev Str := List UInt8

inductive V where
  | mk (kind : Int) (bits : Nat) (text : Str) (keys : List Str) (items : List V)

def V.kind : V → Int | .mk k _ _ _ _ => k
def V.bits : V → Nat | .mk _ b _ _ _ => b
def V.text : V → Str | .mk _ _ t _ _ => t
def V.keys : V → List Str | .mk _ _ _ l _ => l
def V.items : V → List V | .mk _ _ _ _ l => l
def V.nil : V := .mk 0 0 [] [] []

def eStr : ETy := ⟨1, 16⟩
def eV : ETy := ⟨5, 80⟩
def eU8 : ETy := ⟨1, 1⟩

def keysAV (ks : List Str) : List (List AV) := ks.map fun s => [.c (str s)]

mutual
/-- The cells of a value. -/
def V.cs (fr : Bool) : V → List AV
  | .mk k b t ks is => [.c (.int .i64 k), .c (.int .u64 (b : Int)), .c (str t), .sl fr false eStr (keysAV ks), .sl fr false eV (V.css fr is)]
def V.css (fr : Bool) : List V → List (List AV)
  | [] => []
  | v :: r => v.cs fr :: V.css fr r
end

theorem V.css_eq (fr : Bool) : ∀ is, V.css fr is = is.map (V.cs fr)
  | [] => rfl
  | v :: r => by simp [V.css, V.css_eq fr r]
theorem V.css_length (fr : Bool) (is : List V) : (V.css fr is).length = is.length := by simp [V.css_eq]
theorem V.css_get (fr : Bool) {is : List V} {i : Nat} {v : V} (h : is[i]? = some v) : (V.css fr is)[i]? = some (v.cs fr) := by simp [V.css_eq, h]
theorem V.css_getE (fr : Bool) {is : List V} {i : Nat} (h : i < is.length) : (V.css fr is)[i]? = some ((is[i]).cs fr) := V.css_get fr (List.getElem?_eq_getElem h)
theorem V.css_append (fr : Bool) (a b : List V) : V.css fr (a ++ b) = V.css fr a ++ V.css fr b := by simp [V.css_eq]
theorem V.css_take (fr : Bool) (a : List V) (k : Nat) : V.css fr (a.take k) = (V.css fr a).take k := by simp [V.css_eq, List.map_take]
theorem V.css_drop (fr : Bool) (a : List V) (k : Nat) : V.css fr (a.drop k) = (V.css fr a).drop k := by simp [V.css_eq, List.map_drop]
theorem V.cs_length (fr : Bool) (v : V) : (v.cs fr).length = 5 := by cases v; rfl
theorem V.css_sz (fr : Bool) (is : List V) : ∀ x ∈ V.css fr is, x.length = eV.sz := by
  intro x hx
  rw [V.css_eq] at hx
  obtain ⟨v, _, rfl⟩ := List.mem_map.1 hx
  exact V.cs_length fr v
theorem keysAV_length (ks : List Str) : (keysAV ks).length = ks.length := by simp [keysAV]
theorem keysAV_get {ks : List Str} {i : Nat} {s : Str} (h : ks[i]? = some s) : (keysAV ks)[i]? = some [.c (str s)] := by simp [keysAV, h]
theorem keysAV_getE {ks : List Str} {i : Nat} (h : i < ks.length) : (keysAV ks)[i]? = some [.c (str ks[i])] := keysAV_get (List.getElem?_eq_getElem h)
theorem keysAV_sz (ks : List Str) : ∀ x ∈ keysAV ks, x.length = eStr.sz := by
  intro x hx
  obtain ⟨v, _, rfl⟩ := List.mem_map.1 hx
  rfl
theorem keysAV_append (a b : List Str) : keysAV (a ++ b) = keysAV a ++ keysAV b := by simp [keysAV]
theorem keysAV_flat (ks : List Str) : (keysAV ks).flatten = (ks.map str).map AV.c := by rw [keysAV, flatten_one, List.map_map]; rfl

/-- These cells are the value's. -/
def Vc (fr : Bool) (v : V) (ys : List AV) : Prop := ys = v.cs fr
theorem Vc.self {fr : Bool} {v : V} : Vc fr v (v.cs fr) := rfl
theorem Vc.mk {fr : Bool} {k : Int} {b : Nat} {t : Str} {ks : List Str} {is : List V} : Vc fr (.mk k b t ks is) [.c (.int .i64 k), .c (.int .u64 (b : Int)), .c (str t), .sl fr false eStr (keysAV ks), .sl fr false eV (V.css fr is)] := rfl
theorem Vc.nil {fr : Bool} : Vc fr V.nil [.c (.int .i64 0), .c (.int .u64 0), .c (str []), .sl fr false eStr [], .sl fr false eV []] := rfl

theorem FlL.flat {p : Bool → Prop} : ∀ {xs : List (List AV)}, (∀ x ∈ xs, FlL p x) → FlL p xs.flatten
  | [], _ => .nil
  | x :: xs, h => by
    rw [List.flatten_cons]
    exact FlL.append (h x (by simp)) (FlL.flat fun y hy => h y (by simp [hy]))
theorem keys_fl {p : Bool → Prop} (ks : List Str) : FlL p (keysAV ks).flatten := by rw [keysAV_flat]; exact FlL.c _
mutual
theorem V.cs_fl (fr : Bool) : ∀ v : V, FlL (· = fr) (v.cs fr)
  | .mk k b t ks is => .cons (.c _) (.cons (.c _) (.cons (.c _) (.cons (.sl rfl (keys_fl ks)) (.cons (.sl rfl (V.css_fl fr is)) .nil))))
theorem V.css_fl (fr : Bool) : ∀ l : List V, FlL (· = fr) (V.css fr l).flatten
  | [] => .nil
  | v :: r => by
    simp only [V.css, List.flatten_cons]
    exact FlL.append (V.cs_fl fr v) (V.css_fl fr r)
end
theorem V.fresh (v : V) : Fresh (.agg (v.cs true)) := .agg (V.cs_fl true v)
theorem Vc.fresh {v : V} {ys : List AV} (h : Vc true v ys) : Fresh (.agg ys) := by rw [h]; exact V.fresh v

theorem LeL.append {F : List (Value × AV)} {a b c d : List AV} (h : LeL F a b) (k : LeL F c d) : LeL F (a ++ c) (b ++ d) := by
  induction h with
  | nil => exact k
  | cons h _ ih => exact .cons h ih
theorem Le.slL {F : List (Value × AV)} {fr fr' clip : Bool} {e : ETy} {xs ys : List (List AV)} (hf : fr' = true → fr = true) (hl : xs.length = ys.length) (hs : ∀ y ∈ ys, y.length = e.sz) (h : LeL F xs.flatten ys.flatten) : Le F (.sl fr clip e xs) (.sl fr' false e ys) :=
  .sl hf (fun h => by cases h) hl hs h.get.2 h.get.1
theorem keys_le {F : List (Value × AV)} (fr fr' : Bool) (hf : fr' = true → fr = true) (ks : List Str) : Le F (.sl fr false eStr (keysAV ks)) (.sl fr' false eStr (keysAV ks)) := .slL hf rfl (keysAV_sz ks) (.refl _)
mutual
theorem V.cs_le {F : List (Value × AV)} (fr fr' : Bool) (hf : fr' = true → fr = true) : ∀ v : V, LeL F (v.cs fr) (v.cs fr')
  | .mk k b t ks is => .cons (.refl _) (.cons (.refl _) (.cons (.refl _) (.cons (keys_le fr fr' hf ks) (.cons (.slL hf (by rw [V.css_length, V.css_length]) (V.css_sz fr' is) (V.css_le fr fr' hf is)) .nil))))
theorem V.css_le {F : List (Value × AV)} (fr fr' : Bool) (hf : fr' = true → fr = true) : ∀ l : List V, LeL F (V.css fr l).flatten (V.css fr' l).flatten
  | [] => .nil
  | v :: r => by
    simp only [V.css, List.flatten_cons]
    exact LeL.append (V.cs_le fr fr' hf v) (V.css_le fr fr' hf r)
end
theorem items_le {F : List (Value × AV)} (fr fr' : Bool) (hf : fr' = true → fr = true) (is : List V) : Le F (.sl fr false eV (V.css fr is)) (.sl fr' false eV (V.css fr' is)) :=
  .slL hf (by rw [V.css_length, V.css_length]) (V.css_sz fr' is) (V.css_le fr fr' hf is)

mutual
def V.sz : V → Nat
  | .mk _ _ _ _ is => 1 + V.szs is
def V.szs : List V → Nat
  | [] => 0
  | x :: r => x.sz + V.szs r
end
theorem V.sz_pos (v : V) : 1 ≤ v.sz := by cases v; unfold V.sz; omega
theorem V.szs_mem : ∀ {is : List V} {x : V}, x ∈ is → x.sz ≤ V.szs is
  | y :: r, x, h => by
    unfold V.szs
    rcases List.mem_cons.1 h with rfl | h
    · omega
    · have := V.szs_mem h; omega
theorem V.sz_get {k : Int} {b : Nat} {t : Str} {ks : List Str} {is : List V} {j n : Nat} (h : (V.mk k b t ks is).sz ≤ n + 1) (hj : j < is.length) : is[j].sz ≤ n := by
  have := V.szs_mem (List.getElem_mem hj)
  unfold V.sz at h; omega
/-- What fits a machine. -/
inductive V.wf : V → Prop
  | mk {k : Int} {b : Nat} {t : Str} {ks : List Str} {is : List V} (h1 : -9223372036854775808 ≤ k ∧ k ≤ 9223372036854775807) (h2 : b < 2 ^ 64) (h3 : t.length ≤ reach) (h4 : ks.length * 16 ≤ reach) (h5 : is.length * 80 ≤ reach)
      (h6 : ∀ s ∈ ks, s.length ≤ reach) (h7 : ∀ x ∈ is, V.wf x) : V.wf (.mk k b t ks is)
theorem V.wf.inv {k : Int} {b : Nat} {t : Str} {ks : List Str} {is : List V} (h : V.wf (.mk k b t ks is)) : (-9223372036854775808 ≤ k ∧ k ≤ 9223372036854775807) ∧ b < 2 ^ 64 ∧ t.length ≤ reach ∧ ks.length * 16 ≤ reach ∧ is.length * 80 ≤ reach ∧ (∀ s ∈ ks, s.length ≤ reach) ∧ ∀ x ∈ is, V.wf x := by
  cases h with | mk h1 h2 h3 h4 h5 h6 h7 => exact ⟨h1, h2, h3, h4, h5, h6, h7⟩
theorem V.wf_nil : V.nil.wf := .mk (by decide) (by decide) (by decide) (by decide) (by decide) (fun _ h => by cases h) (fun _ h => by cases h)

/-! ### the page -/
def keyOk (s : Str) : Bool := decide (1 ≤ s.length) && decide (s.length ≤ 16)
def keyAt (l : List Str) (j : Nat) : Bool := keyOk (l.getD j []) && (j == 0 || Op.bytesLess (l.getD (j - 1) []) (l.getD j []))
def keysOk (l : List Str) : Bool := (List.range l.length).all (keyAt l)
theorem all_range_succ {p : Nat → Bool} {k : Nat} (h : (List.range k).all p = true) (hk : p k = true) : (List.range (k + 1)).all p = true := by
  simp [List.range_succ] at h ⊢
  exact ⟨h, hk⟩
theorem all_range_false {p : Nat → Bool} {k n : Nat} (hk : k < n) (h : p k = false) : (List.range n).all p = false := by
  rw [List.all_eq_false]
  exact ⟨k, by simpa using hk, by simp [h]⟩

def partOk : V → Bool
  | .mk k b t ks is =>
    if k = 0 then b == 0 && t == [] && ks.length == 0 && is.length == 0
    else if k = 1 then decide (b ≤ 1) && t == [] && ks.length == 0 && is.length == 0
    else if k = 2 then canonN b == b && t == [] && ks.length == 0 && is.length == 0
    else if k = 3 then b == 0 && decide (t.length ≤ 128) && ks.length == 0 && is.length == 0
    else if k = 4 then b == 0 && t == [] && ks.length == 0 && decide (is.length ≤ 32)
    else if k = 5 then b == 0 && t == [] && decide (is.length ≤ 32) && ks.length == is.length && keysOk ks
    else false

mutual
/-- The first error of a walk, and the parts so far. -/
def V.chk : V → Int → Int → Int × Int
  | .mk k b t ks is, lev, n => if 8 < lev then (10, n) else if 512 ≤ n then (3, n) else if partOk (.mk k b t ks is) = false then (9, n) else V.chks is lev (n + 1)
def V.chks : List V → Int → Int → Int × Int
  | [], _, n => (0, n)
  | x :: r, lev, n => if (x.chk (lev + 1) n).1 ≠ 0 then x.chk (lev + 1) n else V.chks r lev (x.chk (lev + 1) n).2
end
mutual
def V.depth : V → Int
  | .mk _ _ _ _ is => 1 + V.depths is
def V.depths : List V → Int
  | [] => 0
  | x :: r => max x.depth (V.depths r)
end
def V.err (v : V) : Int := (v.chk 1 0).1
def V.cnt (v : V) : Int := (v.chk 1 0).2

mutual
def V.same : V → V → Bool
  | .mk k b t ks is, .mk k' b' t' ks' is' => k == k' && b == b' && t == t' && ks == ks' && V.sames is is'
def V.sames : List V → List V → Bool
  | [], [] => true
  | x :: r, y :: s => x.same y && V.sames r s
  | _, _ => false
end
mutual
theorem V.same_refl : ∀ e : V, e.same e = true
  | .mk k b t ks is => by simp [V.same, V.sames_refl is]
theorem V.sames_refl : ∀ l : List V, V.sames l l = true
  | [] => rfl
  | x :: r => by simp [V.sames, V.same_refl x, V.sames_refl r]
end
mutual
theorem V.same_eq : ∀ {a b : V}, a.same b = true → a = b
  | .mk k b t ks is, .mk k' b' t' ks' is', h => by
    simp only [V.same, Bool.and_eq_true, beq_iff_eq] at h
    obtain ⟨⟨⟨⟨rfl, rfl⟩, rfl⟩, rfl⟩, h⟩ := h
    rw [V.sames_eq h]
theorem V.sames_eq : ∀ {a b : List V}, V.sames a b = true → a = b
  | [], [], _ => rfl
  | x :: r, y :: s, h => by
    simp only [V.sames, Bool.and_eq_true] at h
    rw [V.same_eq h.1, V.sames_eq h.2]
  | [], _ :: _, h => by simp [V.sames] at h
  | _ :: _, [], h => by simp [V.sames] at h
end
instance : DecidableEq V := fun a b => if h : a.same b = true then isTrue (V.same_eq h) else isFalse fun e => h (e ▸ V.same_refl a)
theorem V.same_iff {a b : V} : a.same b = decide (a = b) := by
  by_cases h : a = b
  · subst h; simp [V.same_refl]
  · simp only [h, decide_false]
    cases hs : a.same b with
    | false => rfl
    | true => exact absurd (V.same_eq hs) h

mutual
theorem V.chk_bounds : ∀ (v : V) (lev n : Int), n ≤ (v.chk lev n).2 ∧ (n ≤ 512 → (v.chk lev n).2 ≤ 512)
  | .mk k b t ks is, lev, n => by
    unfold V.chk
    split
    · exact ⟨Int.le_refl _, id⟩
    · split
      · exact ⟨Int.le_refl _, id⟩
      · split
        · exact ⟨Int.le_refl _, id⟩
        · have := V.chks_bounds is lev (n + 1)
          exact ⟨by omega, fun h => this.2 (by omega)⟩
theorem V.chks_bounds : ∀ (l : List V) (lev n : Int), n ≤ (V.chks l lev n).2 ∧ (n ≤ 512 → (V.chks l lev n).2 ≤ 512)
  | [], lev, n => ⟨Int.le_refl _, id⟩
  | x :: r, lev, n => by
    unfold V.chks
    have h1 := V.chk_bounds x (lev + 1) n
    split
    · exact h1
    · have h3 := V.chks_bounds r lev (x.chk (lev + 1) n).2
      exact ⟨by omega, fun h => h3.2 (h1.2 h)⟩
end
/-- A walk that is right is not too deep. -/
theorem V.depths_nonneg : ∀ l : List V, 0 ≤ V.depths l
  | [] => Int.le_refl _
  | x :: r => by unfold V.depths; have := V.depths_nonneg r; omega
mutual
theorem V.chk_depth : ∀ (v : V) (lev n : Int), (v.chk lev n).1 = 0 → lev + v.depth ≤ 9 ∧ 1 ≤ v.depth
  | .mk k b t ks is, lev, n, h => by
    unfold V.chk at h
    split at h
    · simp at h
    · split at h
      · simp at h
      · split at h
        · simp at h
        · have := V.chks_depth is lev (n + 1) h
          have h0 := V.depths_nonneg is
          unfold V.depth
          omega
theorem V.chks_depth : ∀ (l : List V) (lev n : Int), (V.chks l lev n).1 = 0 → V.depths l = 0 ∨ lev + V.depths l ≤ 8
  | [], lev, n, h => .inl rfl
  | x :: r, lev, n, h => by
    unfold V.chks at h
    split at h
    · rename_i h'; exact absurd h h'
    · rename_i h'
      have h1 := V.chk_depth x (lev + 1) n (by simpa using h')
      have h2 := V.chks_depth r lev _ h
      right
      unfold V.depths
      omega
end
end Go.Proofs.Ytkiankpmkglhcaa.J

/- Values whose memory a call owns. -/
namespace Go.Proofs.Ytkiankpmkglhcaa.J
open Go Go.RowKit
set_option linter.unusedVariables false
set_option linter.unusedSimpArgs false

theorem ok_grp {w : World} {A : Foot} {l : List Own} : (Own.grp l).ok w A ↔ ∀ o ∈ l, o.ok w A := by simp [Own.ok, okl_iff]
theorem fp_grp {l : List Own} : (Own.grp l).fp = fps l := by simp [Own.fp, fpl_eq]
theorem Reown.nilGrpE (own : List Own) : Reown own (own ++ [.grp []]) := ⟨fun x => by simp [fps_append, fps_cons, fp_grp, fps_nil], fun w A g o ho => by
  rcases List.mem_append.1 ho with ho | ho
  · exact g o ho
  · simp only [List.mem_singleton] at ho; subst ho; simp [ok_grp]⟩

theorem Reown.tri (o a b : Own) (l : List Own) : Reown (o :: a :: b :: l) (.grp [o, .grp [a, b]] :: l) := ⟨fun x => by simp only [fps_cons, fps_nil, fp_grp, List.count_append, List.count_nil]; omega, fun w A h => by
  simp only [List.forall_mem_cons, ok_grp, List.not_mem_nil, false_implies, implies_true, and_true] at h ⊢
  exact ⟨⟨h.1, h.2.1, h.2.2.1⟩, h.2.2.2⟩⟩
theorem Reown.rot3g (a b c : Own) (l : List Own) : Reown (a :: b :: c :: l) (c :: .grp [a, b] :: l) := ⟨fun x => by simp only [fps_cons, fps_nil, fp_grp, List.count_append, List.count_nil]; omega, fun w A h => by
  simp only [List.forall_mem_cons, ok_grp, List.not_mem_nil, false_implies, implies_true, and_true] at h ⊢
  exact ⟨h.2.2.1, ⟨h.1, h.2.1⟩, h.2.2.2⟩⟩
theorem Reown.grp2 (a b : Own) (l : List Own) : Reown (a :: b :: l) (.grp [a, b] :: l) := ⟨fun x => by simp only [fps_cons, fps_nil, fp_grp, List.count_append, List.count_nil]; omega, fun w A h => by
  simp only [List.forall_mem_cons, ok_grp, List.not_mem_nil, false_implies, implies_true, and_true] at h ⊢
  exact ⟨⟨h.1, h.2.1⟩, h.2.2⟩⟩
theorem Reown.swap (a b : Own) (l : List Own) : Reown (a :: b :: l) (b :: a :: l) := .perm (.swap _ _ _)

section
variable {P : Program} {E : Ent} {Q : Exit → St → Prop} {n : Nat} {env : List (Nat × AV)} {own : List Own} {F : List (Value × AV)} {D : List Deferred} {ops : Array Oper} {l : List Oper} {c : Code}
theorem J.isSlice (i : Nat) {v : Value} {e : ETy} {xs : List (List AV)} (hi : own[i]? = some (.arr v e xs)) (h : v.oneCell' = true → J P E c ⟨n, env, own, F, D⟩ Q) : J P E c ⟨n, env, own, F, D⟩ Q := fun a w ⟨A, hA⟩ => by
  refine h ?_ a w ⟨A, hA⟩
  rcases hA.arr i hi with ⟨_, hv, _⟩ | ⟨_, _, _, _, hv, _⟩ <;> (rw [hv]; rfl)
theorem JL.isSlice (i : Nat) {v : Value} {e : ETy} {xs : List (List AV)} (hi : own[i]? = some (.arr v e xs)) (h : v.oneCell' = true → JL P E ops l ⟨n, env, own, F, D⟩ Q) : JL P E ops l ⟨n, env, own, F, D⟩ Q := fun a w ⟨A, hA⟩ => by
  refine h ?_ a w ⟨A, hA⟩
  rcases hA.arr i hi with ⟨_, hv, _⟩ | ⟨_, _, _, _, hv, _⟩ <;> (rw [hv]; rfl)
end

/-- A value's two lists, owned. -/
structure VTr (v : V) (kv iv : Value) (ok oi : Own) : Prop where
  k1 : kv.oneCell' = true
  i1 : iv.oneCell' = true
  ks : Tr (.sl true false eStr (keysAV v.keys)) kv ok
  is : Tr (.sl true false eV (V.css true v.items)) iv oi

/-- The cells of a value that is owned. -/
def V.raw (v : V) (kv iv : Value) : List AV := [.c (.int .i64 v.kind), .c (.int .u64 (v.bits : Int)), .c (str v.text), .c kv, .c iv]
def V.vals (v : V) (kv iv : Value) : List Value := [.int .i64 v.kind, .int .u64 (v.bits : Int), str v.text, kv, iv]
theorem V.raw_eq (v : V) (kv iv : Value) : v.raw kv iv = (v.vals kv iv).map AV.c := rfl

theorem OwnEq.drops (o : Own) : OwnEq (.grp [.grp [], o]) o := (OwnEq.nest [] [o]).trans (OwnEq.one o)
theorem VTr.trL {v : V} {kv iv : Value} {ok oi : Own} (h : VTr v kv iv ok oi) : TrL (v.cs true) (v.vals kv iv) (.grp [ok, oi]) := by
  obtain ⟨k, b, t, ks, is⟩ := v
  have hn : TrL [] [] (.grp []) := .nil (.refl _)
  refine .cons (.c (.refl _)) (.cons (.c (.refl _)) (.cons (.c (.refl _)) (.cons h.ks (.cons h.is hn (o'' := oi) ?_) (.refl _)) (.drops _)) (.drops _)) (.drops _)
  exact (OwnEq.grp_perm (List.Perm.swap _ _ _)).trans (.drops _)
theorem VTr.ones {v : V} {kv iv : Value} {ok oi : Own} (h : VTr v kv iv ok oi) : (v.vals kv iv).all (·.oneCell') = true := by
  simp [V.vals, h.k1, h.i1]
  exact ⟨rfl, rfl, rfl⟩
theorem VTr.tr {v : V} {kv iv : Value} {ok oi : Own} (h : VTr v kv iv ok oi) : Tr (.agg (v.cs true)) (.agg (v.vals kv iv).toArray) (.grp [ok, oi]) := .agg h.ones h.trL

/-- A list of strings in an own array is a tree. -/
theorem keys_trL : ∀ ks : List Str, TrL (keysAV ks).flatten (ks.map str) (.grp [])
  | [] => .nil (.refl _)
  | s :: ks => by
    have := keys_trL ks
    simp only [keysAV, List.map_cons, List.flatten_cons, List.singleton_append] at this ⊢
    exact .cons (.c (.refl _)) this (.drops _)
theorem keys_tr {v : Value} {ks : List Str} (h : ks.length * 16 ≤ reach) : Tr (.sl true false eStr (keysAV ks)) v (.arr v eStr (keysAV ks)) :=
  .sl (us := ks.map str) (keysAV_flat ks) rfl (keysAV_sz ks) (keysAV_sz ks) (by simp; intro s hs; rfl) (by rw [keysAV_length]; exact h) (keys_trL ks) ((OwnEq.grp_perm (List.Perm.swap _ _ _)).trans ((OwnEq.drops _)))

theorem items_tr {v : Value} {is : List V} {cells : List (List AV)} {us : List Value} {o : Own} (h1 : cells.flatten = us.map AV.c) (h2 : cells.length = is.length) (h3 : ∀ x ∈ cells, x.length = 5) (h5 : us.all (·.oneCell') = true) (h6 : is.length * 80 ≤ reach)
    (h : TrL (V.css true is).flatten us o) : Tr (.sl true false eV (V.css true is)) v (.grp [.arr v eV cells, o]) :=
  .sl h1 (by rw [h2, V.css_length]) (V.css_sz true is) h3 h5 (by rw [V.css_length]; exact h6) h (.refl _)

/-- What a copy of a value is: it is owned. -/
def CopyR (v : V) : AV → List Own → Prop := fun x o => ∃ kv iv ok oi, x = .agg (v.raw kv iv) ∧ o = [ok, oi] ∧ VTr v kv iv ok oi

/-- Lists of values that are copied one by one. -/
structure KidsTr (is : List V) (cells : List (List AV)) (us : List Value) (o : Own) : Prop where
  h1 : cells.flatten = us.map AV.c
  h2 : cells.length = is.length
  h3 : ∀ x ∈ cells, x.length = 5
  h5 : us.all (·.oneCell') = true
  h : TrL (V.css true is).flatten us o
theorem KidsTr.nil : KidsTr [] [] [] (.grp []) := ⟨rfl, rfl, (fun _ h => by cases h), rfl, .nil (.refl _)⟩
theorem KidsTr.snoc {is : List V} {cells : List (List AV)} {us : List Value} {o ok oi : Own} {v : V} {kv iv : Value} (h : KidsTr is cells us o) (hv : VTr v kv iv ok oi) : KidsTr (is ++ [v]) (cells ++ [v.raw kv iv]) (us ++ v.vals kv iv) (.grp [o, .grp [ok, oi]]) := by
  refine ⟨by simp [h.h1, V.raw_eq], by simp [h.h2], fun x hx => ?_, by rw [List.all_append, h.h5, hv.ones]; rfl, ?_⟩
  · rcases List.mem_append.1 hx with hx | hx
    · exact h.h3 x hx
    · simp only [List.mem_singleton] at hx; subst hx; rfl
  · rw [V.css_append, List.flatten_append]
    refine h.h.append ?_ (.refl _)
    simpa [V.css] using hv.trL
theorem KidsTr.tr {is : List V} {cells : List (List AV)} {us : List Value} {o : Own} (h : KidsTr is cells us o) {v : Value} (h6 : is.length * 80 ≤ reach) : Tr (.sl true false eV (V.css true is)) v (.grp [.arr v eV cells, o]) :=
  items_tr h.h1 h.h2 h.h3 h.h5 h6 h.h

theorem keys_low (ks : List Str) : LowFl (.sl false false eStr (keysAV ks)) := .sl rfl (keys_fl ks)
theorem items_low (is : List V) : LowFl (.sl false false eV (V.css false is)) := .sl rfl (V.css_fl false is)
/-- An owned value, lent. -/
theorem VTr.lent {v : V} {kv iv : Value} {ok oi : Own} (h : VTr v kv iv ok oi) : Lent [(kv, .sl false false eStr (keysAV v.keys)), (iv, .sl false false eV (V.css false v.items))] [ok, oi] :=
  Lent.cons (h.ks.lent (keys_le true false (fun h => by cases h) _) (keys_low _)) (h.is.lent (items_le true false (fun h => by cases h) _) (items_low _))
theorem VTr.lentK {v : V} {kv iv : Value} {ok oi : Own} (h : VTr v kv iv ok oi) : Lent [(kv, .sl false false eStr (keysAV v.keys))] [ok] := h.ks.lent (keys_le true false (fun h => by cases h) _) (keys_low _)
theorem VTr.lentI {v : V} {kv iv : Value} {ok oi : Own} (h : VTr v kv iv ok oi) : Lent [(iv, .sl false false eV (V.css false v.items))] [oi] := h.is.lent (items_le true false (fun h => by cases h) _) (items_low _)
theorem mem_l0 {α : Type} {x : α} {l : List α} : x ∈ x :: l := List.mem_cons_self
/-- Its cells, while it is lent. -/
theorem V.raw_le {F : List (Value × AV)} {v : V} {kv iv : Value} {fr : Bool} (hk : (kv, .sl fr false eStr (keysAV v.keys)) ∈ F) (hi : (iv, .sl fr false eV (V.css fr v.items)) ∈ F) : Le F (.agg (v.raw kv iv)) (.agg (v.cs fr)) := by
  obtain ⟨k, b, t, ks, is⟩ := v
  exact .aggL (.cons (.refl _) (.cons (.refl _) (.cons (.refl _) (.cons (.fact hk (.refl _)) (.cons (.fact hi (.refl _)) .nil)))))

/-- What is owned is given up: it reads. -/
theorem Fn.close {P : Program} {f : FuncId} {xs : List AV} {z : AV} {Rx : AV → List Own → Prop} (h : AC P f [] xs (RetR Rx))
    (hc : ∀ x o, Rx x o → ∃ G, (∀ (w : World) (A : Foot), (∀ y ∈ o, y.ok w A) → (∀ b ∈ fps o, ∀ fr, A fr b) → ∀ p ∈ G, Rd w A p.1 p.2) ∧ Le G x z) : Fn P f xs z := fun w A0 vs h1 h2 => by
  refine (h w A0 vs h1 h2).mono ?_
  rintro e w' ⟨r, own', A, ⟨x, rfl, hR⟩, hk, hp, v, rfl, hv⟩
  obtain ⟨G, hG, hle⟩ := hc x own' hR
  let A' : Foot := fun fr b => A fr b ∨ b ∈ fps own'
  have hup : ∀ fr b, A fr b → A' fr b := fun fr b hb => .inl hb
  have hm : ∀ b, A' true b → A' false b := fun b hb => hb.imp (hp.mono b) id
  have hrd : Rd w' A' v z := (hv.move (fun fr b hb _ => hup fr b hb) fun _ _ _ _ => rfl : Rd w' A' v x).le (F := G) hm
    (hG w' A' (fun y hy => (hp.own y hy).move (fun fr b hb _ => hup fr b hb) (fun _ _ _ _ => rfl) fun _ _ => rfl) fun b hb fr => .inr hb) hle
  refine ⟨.ret z, [], A', ⟨rfl, rfl⟩, hk, ⟨hm, fun fr b hb => hup fr b (hp.sup fr b hb), fun fr b hb => ?_, fun fr b hb => hb.elim (hp.lt fr b) fun hb => (hp.fp b hb).1, fun b hb => by simp [fps] at hb, by simp [fps], fun o ho => by cases ho⟩, v, rfl, hrd⟩
  rcases hb with hb | hb
  · exact hp.sub fr b hb
  · rcases (hp.fp b hb).2.1 with h | h
    · simp [fps] at h
    · exact .inr h

theorem VTr.closG {v : V} {kv iv : Value} {ok oi : Own} (h : VTr v kv iv ok oi) (w : World) (A : Foot) (hok : ∀ y ∈ [ok, oi], y.ok w A) (hb : ∀ b ∈ fps [ok, oi], ∀ fr, A fr b) :
    ∀ p ∈ [(kv, AV.sl true false eStr (keysAV v.keys)), (iv, AV.sl true false eV (V.css true v.items))], Rd w A p.1 p.2 := fun p hp => by
  simp only [List.mem_cons, List.not_mem_nil, or_false] at hp
  simp only [fps_cons, fps_nil, List.append_nil, List.mem_append] at hb
  rcases hp with rfl | rfl
  · exact h.ks.rd (hok _ (by simp)) fun b hb' => hb b (.inl hb') true
  · exact h.is.rd (hok _ (by simp)) fun b hb' => hb b (.inr hb') true
theorem Fn.ofCopy {P : Program} {f : FuncId} {xs : List AV} {v : V} (h : AC P f [] xs (RetR (CopyR v))) : Fn P f xs (.agg (v.cs true)) :=
  Fn.close h fun x o ⟨kv, iv, ok, oi, hx, ho, hV⟩ => by
    subst hx ho
    exact ⟨_, hV.closG, V.raw_le (by simp) (by simp)⟩
end Go.Proofs.Ytkiankpmkglhcaa.J

/- Appends onto slices that are read alone and have no spare places: what comes of them is fresh. Lists of trees. -/
namespace Go.Proofs.Ytkiankpmkglhcaa.J
open Go Go.RowKit
set_option linter.unusedVariables false
set_option linter.unusedSimpArgs false

section
variable {P : Program} {E : Ent} {st : St} {Q : Exit → St → Prop} {n : Nat} {env : List (Nat × AV)} {own : List Own} {F : List (Value × AV)} {D : List Deferred} {ops : Array Oper} {rest : List Oper}
variable {A : Foot} {a : Act} {w w' : World} {t tx et ty : TypeId} {pos : String} {af : Array Edge} {d : Nat} {dd : Option Tmp} {gd : Option (Nat × Bool)} {s x y : Operand}

theorem SatA.drawn (h : SatA E A st a w) : SatA E A st a (World.drawnBy w) := by
  obtain ⟨n, env, own, F, D⟩ := st
  exact h.draw

/-- An append onto a slice without spare places, of something: a fresh slice. -/
theorem QW.appendQ {fr : Bool} {e : ETy} {xs ys : List (List AV)} (hU : P.underlying t = some (.slice et)) (hE : elemB P et e = true) (hb0 : Nat.blt 0 e.bytes = true) (hsv : Ev E st s (.sl fr true e xs))
    (hx : ∀ A a w, SatA E A st a w → SrcA P w A tx (a.eval x) e ys) (hne : 0 < ys.length) (hreach : (xs.length + ys.length) * e.bytes ≤ reach) :
    QW P E st ⟨dd, .call ⟨.builtin .append, #[s, x], #[t, tx]⟩, ty, pos, af, gd⟩ (.sl true false e (xs ++ ys)) := fun A a w hA K Qx hK => by
  refine wpR (by intro c h; cases h) ?_
  unfold Oper.wp
  obtain ⟨ti, tz, hi, hsz, hby, hz, hzs, hz1⟩ := elemB_get hE
  obtain ⟨news, hsrc, hnc, hyl⟩ := hx A a w hA
  rw [← hsz] at hsrc
  have hb1 : 1 ≤ e.bytes := blt_lt hb0
  have hneed : xs.length + ys.length ≤ reach := Nat.le_trans (Nat.le_mul_of_pos_right _ hb1) hreach
  have hreach' := hreach
  unfold reach at hneed hreach
  have hnl : news.length = ys.flatten.length := by rw [hsrc.newsLen, hsz, flatten_length ys hyl]
  have h63 : ((xs.length + ys.length : Nat) : Int) ≤ 9223372036854775807 := by omega
  have hfit : ∀ sCap, sCap < xs.length + ys.length → Builtin.nextslicecap (xs.length + ys.length) sCap * ti.bytes ≤ 281474976710656 := fun sCap hlt => growslice_fits hlt (by rw [hby]; omega)
  obtain ⟨ad, cap, hv, hcl, _, hc⟩ := (hsv A a w hA).of_sl
  have hcap := hcl rfl
  subst hcap
  -- the old cells
  have hold : ∃ olds : List Value, (Builtin.firstCells ti.size xs.length (.slice ad xs.length xs.length)).run P w.drew = .ok olds.toArray w.drew ∧ olds.length = xs.flatten.length ∧ (∀ x ∈ xs, x.length = e.sz) ∧ Cells w A olds.toArray 0 xs.flatten := by
    rcases hc with rfl | ⟨b, off, cs, t', fz, rfl, hAb, hb, hxl, _, hc⟩
    · refine ⟨[], ?_, by simp, (fun _ h => by cases h), fun k y hk => by simp at hk⟩
      cases ad with
      | none => exact run_firstCells_none w.drew ti.size 0 0 0
      | some a' => exact run_firstCells_some w.drew ti.size 0 a' 0 0 [] (by simp) (by intro _ _ h'; simp at h')
    · have hfl := flatten_length xs hxl
      have hcu : ∀ k, k < xs.flatten.length → cs[off + k]? = some (cs.getD (off + k) undef) := fun k hk => by
        obtain ⟨u, h1, _, _⟩ := hc k _ (List.getElem?_eq_getElem hk)
        simp [Array.getD_eq_getD_getElem?, h1]
      have hget : ∀ k u, ((List.range (xs.length * e.sz)).map fun k => cs.getD (off + k) undef)[k]? = some u → k < xs.length * e.sz ∧ u = cs.getD (off + k) undef := fun k u hk => by
        rw [List.getElem?_map] at hk
        by_cases hlt : k < xs.length * e.sz
        · rw [List.getElem?_range hlt] at hk; cases hk; exact ⟨hlt, rfl⟩
        · rw [List.getElem?_eq_none (by simpa using hlt)] at hk; cases hk
      refine ⟨(List.range (xs.length * e.sz)).map fun k => cs.getD (off + k) undef, ?_, by rw [hfl]; simp, hxl, fun k y hk => ?_⟩
      · refine run_firstCells_some w.drew ti.size xs.length ⟨b, off, none⟩ xs.length xs.length _ (by rw [hsz]; simp) fun j u hj => ?_
        obtain ⟨h1, rfl⟩ := hget j u hj
        have : w.drew.heap[b]? = some (.cells cs t' fz) := hb
        rw [add_at, cell_at this]
        exact hcu j (by omega)
      · obtain ⟨u, h1, h0, h2⟩ := hc k y hk
        have hlt : k < xs.length * e.sz := by rw [← hfl]; exact (List.getElem?_eq_some_iff.1 hk).1
        rw [Nat.zero_add]
        exact ⟨u, by simp [hlt, Array.getD_eq_getD_getElem?, h1], h0, h2⟩
  obtain ⟨olds, hold, hol, hxl, hoc⟩ := hold
  have hlt : xs.length < xs.length + ys.length := by omega
  have hr := run_append_grow_src (P := P) w t tx ty et ti tz hU hi hz ad xs.length xs.length olds hold (a.eval x) ys.length news hsrc hlt h63 (hfit _ hlt)
  have hge := grownCap_ge w (xs.length + ys.length) xs.length et
  rw [run_builtin_append hv rfl hr, Oper.upon_value, alloc_eq]
  have hd' := hA.drawn
  have hcells : Cells (World.drawnBy w) A (olds ++ news).toArray 0 (xs ++ ys).flatten := by
    rw [List.flatten_append]
    intro k y hk
    rw [Nat.zero_add]
    by_cases hk1 : k < xs.flatten.length
    · rw [List.getElem?_append_left hk1] at hk
      obtain ⟨u, h1, h0, h2⟩ := hoc k y hk
      refine ⟨u, ?_, h0, h2.move (fun _ _ h _ => h) fun _ _ _ _ => rfl⟩
      rw [Nat.zero_add] at h1
      simp only [List.getElem?_toArray] at h1 ⊢
      rw [List.getElem?_append_left (by omega)]; exact h1
    · rw [List.getElem?_append_right (by omega)] at hk
      obtain ⟨u, h1, h0, h2⟩ := hnc _ y hk
      refine ⟨u, ?_, h0, h2.move (fun _ _ h _ => h) fun _ _ _ _ => rfl⟩
      rw [Nat.zero_add] at h1
      simp only [List.getElem?_toArray] at h1 ⊢
      rw [List.getElem?_append_right (by omega), hol]; exact h1
  -- the new row, with its spare places, is read alone
  obtain ⟨n, env, own, F, D⟩ := st
  generalize hrow : ((olds ++ news).toArray ++ Builtin.zeroCells tz.cells (grownCap w (xs.length + ys.length) xs.length et - (xs.length + ys.length)) : Array Value) = row at *
  have hrowc : Cells (World.drawnBy w) A row 0 (xs ++ ys).flatten := fun k y hk => by
    obtain ⟨u, h1, h0, h2⟩ := hcells k y hk
    refine ⟨u, ?_, h0, h2⟩
    rw [← hrow]
    have hkl : 0 + k < (olds ++ news).length := by
      have := (Array.getElem?_eq_some_iff.1 h1).1
      simpa using this
    rw [Array.getElem?_append_left (by simpa using hkl)]
    simpa using h1
  let A' : Foot := fun fr b => A fr b ∨ b = (World.drawnBy w).heap.size
  have hup : ∀ fr b, A fr b → A' fr b := fun fr b hb => .inl hb
  have hkeep : ∀ fr b, A fr b → b < (World.drawnBy w).heap.size → (World.pushed (World.drawnBy w) (.cells row et)).heap[b]? = (World.drawnBy w).heap[b]? := fun fr b _ hlt => (Keep.push [] _ _).block b hlt (by simp)
  have hsat : SatA E A' ⟨n, env, own, F, D⟩ a (World.pushed (World.drawnBy w) (.cells row et)) := by
    refine hd'.step (.push _ _ _) hup ⟨fun b hb => hb.imp (hd'.hp.mono b) id, fun fr b hb => hup fr b (hd'.hp.sup fr b hb), fun fr b hb => ?_, fun fr b hb => ?_, fun b hb => ?_, hd'.hp.nodup, fun o ho => ?_⟩
    · rcases hb with hb | rfl
      · exact hd'.hp.sub fr b hb
      · exact .inr hd'.keep.size
    · rw [size_pushed]
      rcases hb with hb | rfl
      · have := hd'.hp.lt fr b hb; omega
      · omega
    · obtain ⟨h1, h2, h3⟩ := hd'.hp.fp b hb
      exact ⟨by rw [size_pushed]; omega, h2, fun fr h => h.elim (h3 fr) (fun he => by omega)⟩
    · exact (hd'.hp.own o ho).move (fun fr b hb _ => hup fr b hb) hkeep fun b hb => (Keep.push [] _ _).block b (hd'.hp.fp b (fps_mem ho hb)).1 (by simp)
  refine hK _ _ A' (fun u y h => (h.move (fun _ _ h _ => h) (fun _ _ _ _ => rfl) : Rd (World.drawnBy w) A u y).move (fun fr b hb _ => hup fr b hb) hkeep) hsat ?_
  have hc2 : Cells (World.pushed (World.drawnBy w) (.cells row et)) A' row 0 (xs ++ ys).flatten := hrowc.move (fun fr b hb _ => hup fr b hb) hkeep
  have hxy : xs.length + ys.length = (xs ++ ys).length := by simp
  rw [hxy] at hge ⊢
  refine .sl true false e (xs ++ ys) w.heap.size 0 _ row et (0, 0) (fun k => row.getD k undef) (.inr rfl) (heap_pushed _ _) hge (fun hh => by cases hh) (fun z hz' => ?_) (by rw [← hxy]; exact hreach') (fun k y hk => ?_) (fun k y hk => ?_)
  · rcases List.mem_append.1 hz' with hz' | hz'
    · exact hxl z hz'
    · exact hyl z hz'
  · obtain ⟨u, g1, g0, _⟩ := hc2 k y hk
    rw [Nat.zero_add] at g1 ⊢
    simp [Array.getD_eq_getD_getElem?, g1, g0]
  · obtain ⟨u, g1, _, g2⟩ := hc2 k y hk
    rw [Nat.zero_add] at g1
    simpa [Array.getD_eq_getD_getElem?, g1] using g2
end

theorem Reown.ofEq {a b : List Own} (h : a = b) : Reown a b := h ▸ .refl _

/-- Lists of trees in an own array. -/
structure ListTr (e : ETy) (xs cells : List (List AV)) (us : List Value) (o : Own) : Prop where
  h1 : cells.flatten = us.map AV.c
  h2 : cells.length = xs.length
  h3 : ∀ x ∈ cells, x.length = e.sz
  h4 : ∀ x ∈ xs, x.length = e.sz
  h5 : us.all (·.oneCell') = true
  h : TrL xs.flatten us o
theorem ListTr.nil (e : ETy) : ListTr e [] [] [] (.grp []) := ⟨rfl, rfl, (fun _ h => by cases h), (fun _ h => by cases h), rfl, .nil (.refl _)⟩
theorem ListTr.snoc {e : ETy} {xs cells : List (List AV)} {us us' : List Value} {o o' : Own} {ys : List AV} (h : ListTr e xs cells us o) (hl : ys.length = e.sz) (hv : TrL ys us' o') (h5 : us'.all (·.oneCell') = true) :
    ListTr e (xs ++ [ys]) (cells ++ [us'.map AV.c]) (us ++ us') (.grp [o, o']) := by
  refine ⟨by simp [h.h1], by simp [h.h2], fun x hx => ?_, fun x hx => ?_, by rw [List.all_append, h.h5, h5]; rfl, ?_⟩
  · rcases List.mem_append.1 hx with hx | hx
    · exact h.h3 x hx
    · simp only [List.mem_singleton] at hx; subst hx; rw [List.length_map, ← hv.length]; exact hl
  · rcases List.mem_append.1 hx with hx | hx
    · exact h.h4 x hx
    · simp only [List.mem_singleton] at hx; subst hx; exact hl
  · rw [List.flatten_append]
    refine h.h.append ?_ (.refl _)
    simpa using hv
theorem ListTr.tr {e : ETy} {xs cells : List (List AV)} {us : List Value} {o : Own} (h : ListTr e xs cells us o) {v : Value} (h6 : xs.length * e.bytes ≤ reach) : Tr (.sl true false e xs) v (.grp [.arr v e cells, o]) :=
  .sl h.h1 h.h2 h.h4 h.h3 h.h5 h6 h.h (.refl _)
end Go.Proofs.Ytkiankpmkglhcaa.J

/- Events as plain data: a name and a value; lists of them. -/
namespace Go.Proofs.Ytkiankpmkglhcaa.J
open Go Go.RowKit
set_option linter.unusedVariables false
set_option linter.unusedSimpArgs false

structure EvT where
  name : Str
  arg : V
  deriving DecidableEq

def eEv : ETy := ⟨6, 96⟩
def EvT.cs (fr : Bool) (e : EvT) : List AV := .c (str e.name) :: e.arg.cs fr
def EvT.css (fr : Bool) (l : List EvT) : List (List AV) := l.map (EvT.cs fr)
theorem EvT.cs_length (fr : Bool) (e : EvT) : (e.cs fr).length = 6 := by simp [EvT.cs, V.cs_length]
theorem EvT.css_length (fr : Bool) (l : List EvT) : (EvT.css fr l).length = l.length := by simp [EvT.css]
theorem EvT.css_get (fr : Bool) {l : List EvT} {i : Nat} {v : EvT} (h : l[i]? = some v) : (EvT.css fr l)[i]? = some (v.cs fr) := by simp [EvT.css, h]
theorem EvT.css_getE (fr : Bool) {l : List EvT} {i : Nat} (h : i < l.length) : (EvT.css fr l)[i]? = some ((l[i]).cs fr) := EvT.css_get fr (List.getElem?_eq_getElem h)
theorem EvT.css_append (fr : Bool) (a b : List EvT) : EvT.css fr (a ++ b) = EvT.css fr a ++ EvT.css fr b := by simp [EvT.css]
theorem EvT.css_take (fr : Bool) (a : List EvT) (k : Nat) : EvT.css fr (a.take k) = (EvT.css fr a).take k := by simp [EvT.css, List.map_take]
theorem EvT.css_drop (fr : Bool) (a : List EvT) (k : Nat) : EvT.css fr (a.drop k) = (EvT.css fr a).drop k := by simp [EvT.css, List.map_drop]
theorem EvT.css_sz (fr : Bool) (l : List EvT) : ∀ x ∈ EvT.css fr l, x.length = eEv.sz := by
  intro x hx
  obtain ⟨v, _, rfl⟩ := List.mem_map.1 hx
  exact EvT.cs_length fr v
def Ec (fr : Bool) (e : EvT) (ys : List AV) : Prop := ys = e.cs fr
theorem Ec.self {fr : Bool} {e : EvT} : Ec fr e (e.cs fr) := rfl
theorem Ec.mk {fr : Bool} {n : Str} {v : V} : Ec fr ⟨n, v⟩ (.c (str n) :: v.cs fr) := rfl
theorem Ec.mk2 {fr : Bool} {n : Str} {v : V} {ys : List AV} (h : Vc fr v ys) : Ec fr ⟨n, v⟩ (.c (str n) :: ys) := by rw [h]; rfl
theorem EvT.cs_fl (fr : Bool) (e : EvT) : FlL (· = fr) (e.cs fr) := .cons (.c _) (V.cs_fl fr _)
theorem EvT.css_fl (fr : Bool) (l : List EvT) : FlL (· = fr) (EvT.css fr l).flatten := FlL.flat fun x hx => by
  obtain ⟨v, _, rfl⟩ := List.mem_map.1 hx
  exact v.cs_fl fr
theorem EvT.cs_le {F : List (Value × AV)} (fr fr' : Bool) (hf : fr' = true → fr = true) (e : EvT) : LeL F (e.cs fr) (e.cs fr') := .cons (.refl _) (V.cs_le fr fr' hf _)
theorem EvT.css_le {F : List (Value × AV)} (fr fr' : Bool) (hf : fr' = true → fr = true) : ∀ l : List EvT, LeL F (EvT.css fr l).flatten (EvT.css fr' l).flatten
  | [] => .nil
  | v :: r => by
    simp only [EvT.css, List.map_cons, List.flatten_cons]
    exact LeL.append (v.cs_le fr fr' hf) (EvT.css_le fr fr' hf r)
theorem events_le {F : List (Value × AV)} (fr fr' clip : Bool) (hf : fr' = true → fr = true) (l : List EvT) : Le F (.sl fr clip eEv (EvT.css fr l)) (.sl fr' false eEv (EvT.css fr' l)) :=
  .slL hf (by rw [EvT.css_length, EvT.css_length]) (EvT.css_sz fr' l) (EvT.css_le fr fr' hf l)
theorem events_low (l : List EvT) : LowFl (.sl false false eEv (EvT.css false l)) := .sl rfl (EvT.css_fl false l)
theorem events_fresh (l : List EvT) (c : Bool) : Fresh (.sl true c eEv (EvT.css true l)) := .sl rfl (EvT.css_fl true l)
structure EvT.wf (e : EvT) : Prop where
  name : e.name.length ≤ reach
  arg : e.arg.wf
def EvT.wfs (l : List EvT) : Prop := l.length * 96 ≤ reach ∧ ∀ e ∈ l, e.wf
theorem EvT.wfs_nil : EvT.wfs [] := ⟨by decide, fun _ h => by cases h⟩
theorem EvT.wfs.len {l : List EvT} (h : EvT.wfs l) : l.length ≤ 1466015503658 := by have := h.1; unfold reach at this; omega
theorem EvT.wfs.take {l : List EvT} (h : EvT.wfs l) (k : Nat) : EvT.wfs (l.take k) := ⟨Nat.le_trans (Nat.mul_le_mul_right _ (by simp; omega)) h.1, fun e he => h.2 e (List.mem_of_mem_take he)⟩
theorem EvT.wfs.drop {l : List EvT} (h : EvT.wfs l) (k : Nat) : EvT.wfs (l.drop k) := ⟨Nat.le_trans (Nat.mul_le_mul_right _ (by simp)) h.1, fun e he => h.2 e (List.mem_of_mem_drop he)⟩

def EvT.raw (e : EvT) (kv iv : Value) : List AV := .c (str e.name) :: e.arg.raw kv iv
def EvT.vals (e : EvT) (kv iv : Value) : List Value := str e.name :: e.arg.vals kv iv
theorem EvT.trL {e : EvT} {kv iv : Value} {ok oi : Own} (h : VTr e.arg kv iv ok oi) : TrL (e.cs true) (e.vals kv iv) (.grp [ok, oi]) := .cons (.c (.refl _)) h.trL (.drops _)
theorem EvT.ones {e : EvT} {kv iv : Value} {ok oi : Own} (h : VTr e.arg kv iv ok oi) : (e.vals kv iv).all (·.oneCell') = true := by
  have := h.ones
  simp only [EvT.vals, List.all_cons, this, Bool.and_true]
  rfl
theorem ListTr.snocE {l : List EvT} {cells : List (List AV)} {us : List Value} {o ok oi : Own} {e : EvT} {kv iv : Value} (h : ListTr eEv (EvT.css true l) cells us o) (hv : VTr e.arg kv iv ok oi) :
    ListTr eEv (EvT.css true (l ++ [e])) (cells ++ [e.raw kv iv]) (us ++ e.vals kv iv) (.grp [o, .grp [ok, oi]]) := by
  rw [EvT.css_append]
  exact h.snoc (EvT.cs_length true e) (EvT.trL hv) (EvT.ones hv)
/-- Events that are owned to their last cell. -/
def EvsR (l : List EvT) : AV → List Own → Prop := fun x o => ∃ v ov, x = .c v ∧ v.oneCell' = true ∧ o = [ov] ∧ Tr (.sl true false eEv (EvT.css true l)) v ov

/-! ### the page -/
def nameOk (s : Str) : Bool := keyOk s
def evErr (e : EvT) : Int := if nameOk e.name then e.arg.err else 31
def evOk (e : EvT) : Bool := nameOk e.name && e.arg.err == 0
theorem evOk_iff (e : EvT) : evOk e = (evErr e == 0) := by
  unfold evOk evErr
  cases nameOk e.name <;> simp

structure QT where
  limit : Int
  last : Int
  events : List EvT
  deriving DecidableEq
def QT.nil : QT := ⟨0, 0, []⟩
def QT.cs (fr : Bool) : QT → List AV
  | ⟨a, b, l⟩ => [.c (.int .i64 a), .c (.int .i64 b), .sl fr false eEv (EvT.css fr l)]
structure QT.wf (q : QT) : Prop where
  l1 : -9223372036854775808 ≤ q.limit ∧ q.limit ≤ 9223372036854775807
  l2 : -9223372036854775808 ≤ q.last ∧ q.last ≤ 9223372036854775807
  ev : EvT.wfs q.events
def QT.ok (q : QT) : Bool := decide (1 ≤ q.limit) && decide (q.limit ≤ 64) && decide ((q.events.length : Int) ≤ q.limit) && decide ((q.events.length : Int) ≤ q.last) && decide (q.last ≤ 1099511627776) && q.events.all evOk
def QT.err (q : QT) : Int := if q.ok then 0 else 9
/-- Push: the queue, the number, the error. -/
def QT.push (q : QT) (e : EvT) : QT × Int × Int :=
  if q.ok = false then (.nil, 0, 9) else if evErr e ≠ 0 then (.nil, 0, evErr e) else if (q.events.length : Int) = q.limit ∨ q.last = 1099511627776 then (.nil, 0, 51) else (⟨q.limit, q.last + 1, q.events ++ [e]⟩, q.last + 1, 0)
def QT.cut (q : QT) (n : Int) : Nat := min n.toNat q.events.length
/-- Take: the queue, the events, the first one's number, the error. -/
def QT.take (q : QT) (n : Int) : QT × List EvT × Int × Int :=
  if q.ok = false then (.nil, [], 0, 9) else if n < 0 then (.nil, [], 0, 4) else
    (⟨q.limit, q.last, q.events.drop (q.cut n)⟩, q.events.take (q.cut n), if 0 < q.cut n then q.last - q.events.length + 1 else 0, 0)
def QT.full (q : QT) : Bool := q.ok && ((q.events.length : Int) == q.limit)
def Qc (fr : Bool) (q : QT) (ys : List AV) : Prop := ys = q.cs fr
theorem Qc.self {fr : Bool} {q : QT} : Qc fr q (q.cs fr) := rfl
theorem Qc.mk {fr : Bool} {a b : Int} {l : List EvT} : Qc fr ⟨a, b, l⟩ [.c (.int .i64 a), .c (.int .i64 b), .sl fr false eEv (EvT.css fr l)] := rfl
def QT.av (q : QT) : AV := .agg (q.cs true)
def evsAV (l : List EvT) : AV := .sl true false eEv (EvT.css true l)

def idxF {α : Type} (p : α → Bool) : List α → Int → Int
  | [], _ => -1
  | x :: r, k => if p x then k else idxF p r (k + 1)
theorem idxF_any {α : Type} (p : α → Bool) : ∀ (l : List α) (k : Int), 0 ≤ k → (decide (0 ≤ idxF p l k)) = l.any p
  | [], k, h => by simp [idxF]
  | x :: r, k, h => by
    unfold idxF
    cases hx : p x with
    | true => simp [hx, h]
    | false => simpa [hx] using idxF_any p r (k + 1) (by omega)
theorem idxF_drop {α : Type} (p : α → Bool) {l : List α} {j : Nat} (h : j < l.length) (k : Int) : idxF p (l.drop j) k = if p l[j] then k else idxF p (l.drop (j + 1)) (k + 1) := by
  rw [List.drop_eq_getElem_cons h, idxF]
end Go.Proofs.Ytkiankpmkglhcaa.J

/- Facts of the program's tables: sizes, places of fields, zero values, functions with a body; each by computation. -/
namespace Go.Proofs.Ytkiankpmkglhcaa.J
open Go Go.RowKit

theorem ty0 : tySz Try.prog 0 = some (false, 1, 0) := by kernel_rfl
theorem us0 : (Try.prog.underlying 0).isSome = true := by kernel_rfl
theorem ty1 : tySz Try.prog 1 = some (false, 1, 8) := by kernel_rfl
theorem us1 : (Try.prog.underlying 1).isSome = true := by kernel_rfl
abbrev et1 : ETy := ⟨1, 8⟩
theorem el1 : elemB Try.prog 1 et1 = true := by kernel_rfl
theorem z1 : zeroCells Try.prog 1 = some [.nilFunc] := by kernel_rfl
theorem ty2 : tySz Try.prog 2 = some (false, 1, 8) := by kernel_rfl
theorem us2 : (Try.prog.underlying 2).isSome = true := by kernel_rfl
theorem iu2 : Try.prog.underlying 2 = some (.int .i64) := by kernel_rfl
abbrev et2 : ETy := ⟨1, 8⟩
theorem el2 : elemB Try.prog 2 et2 = true := by kernel_rfl
theorem z2 : zeroCells Try.prog 2 = some [.int .i64 0] := by kernel_rfl
theorem ty3 : tySz Try.prog 3 = some (false, 1, 8) := by kernel_rfl
theorem us3 : (Try.prog.underlying 3).isSome = true := by kernel_rfl
theorem iu3 : Try.prog.underlying 3 = some (.int .i64) := by kernel_rfl
abbrev et3 : ETy := ⟨1, 8⟩
theorem el3 : elemB Try.prog 3 et3 = true := by kernel_rfl
theorem z3 : zeroCells Try.prog 3 = some [.int .i64 0] := by kernel_rfl
theorem ty4 : tySz Try.prog 4 = some (false, 1, 1) := by kernel_rfl
theorem us4 : (Try.prog.underlying 4).isSome = true := by kernel_rfl
theorem bo4 : Try.prog.underlying 4 = some .bool := by kernel_rfl
abbrev et4 : ETy := ⟨1, 1⟩
theorem el4 : elemB Try.prog 4 et4 = true := by kernel_rfl
theorem z4 : zeroCells Try.prog 4 = some [.bool false] := by kernel_rfl
theorem ty5 : tySz Try.prog 5 = some (false, 1, 1) := by kernel_rfl
theorem us5 : (Try.prog.underlying 5).isSome = true := by kernel_rfl
theorem iu5 : Try.prog.underlying 5 = some (.int .u8) := by kernel_rfl
abbrev et5 : ETy := ⟨1, 1⟩
theorem el5 : elemB Try.prog 5 et5 = true := by kernel_rfl
theorem z5 : zeroCells Try.prog 5 = some [.int .u8 0] := by kernel_rfl
theorem ty6 : tySz Try.prog 6 = some (false, 1, 1) := by kernel_rfl
theorem us6 : (Try.prog.underlying 6).isSome = true := by kernel_rfl
theorem iu6 : Try.prog.underlying 6 = some (.int .u8) := by kernel_rfl
abbrev et6 : ETy := ⟨1, 1⟩
theorem el6 : elemB Try.prog 6 et6 = true := by kernel_rfl
theorem z6 : zeroCells Try.prog 6 = some [.int .u8 0] := by kernel_rfl
theorem ty7 : tySz Try.prog 7 = some (true, 4, 24) := by kernel_rfl
theorem us7 : (Try.prog.underlying 7).isSome = true := by kernel_rfl
theorem pl7 : placesOf Try.prog 7 = some [(0, 1), (1, 1), (2, 1), (3, 1)] := by kernel_rfl
theorem fo7_0 : fieldOff Try.prog 7 0 = some 0 := by kernel_rfl
theorem fo7_1 : fieldOff Try.prog 7 1 = some 1 := by kernel_rfl
theorem fo7_2 : fieldOff Try.prog 7 2 = some 2 := by kernel_rfl
theorem fo7_3 : fieldOff Try.prog 7 3 = some 3 := by kernel_rfl
abbrev et7 : ETy := ⟨4, 24⟩
theorem el7 : elemB Try.prog 7 et7 = true := by kernel_rfl
theorem z7 : zeroCells Try.prog 7 = some [.int .i64 0, .int .i64 0, .bool false, .int .u8 0] := by kernel_rfl
theorem ty8 : tySz Try.prog 8 = some (true, 4, 24) := by kernel_rfl
theorem us8 : (Try.prog.underlying 8).isSome = true := by kernel_rfl
theorem pl8 : placesOf Try.prog 8 = some [(0, 1), (1, 1), (2, 1), (3, 1)] := by kernel_rfl
theorem fo8_0 : fieldOff Try.prog 8 0 = some 0 := by kernel_rfl
theorem fo8_1 : fieldOff Try.prog 8 1 = some 1 := by kernel_rfl
theorem fo8_2 : fieldOff Try.prog 8 2 = some 2 := by kernel_rfl
theorem fo8_3 : fieldOff Try.prog 8 3 = some 3 := by kernel_rfl
abbrev et8 : ETy := ⟨4, 24⟩
theorem el8 : elemB Try.prog 8 et8 = true := by kernel_rfl
theorem z8 : zeroCells Try.prog 8 = some [.int .i64 0, .int .i64 0, .bool false, .int .u8 0] := by kernel_rfl
theorem ty9 : tySz Try.prog 9 = some (false, 1, 16) := by kernel_rfl
theorem us9 : (Try.prog.underlying 9).isSome = true := by kernel_rfl
theorem st9 : Try.prog.underlying 9 = some .string := by kernel_rfl
abbrev et9 : ETy := ⟨1, 16⟩
theorem el9 : elemB Try.prog 9 et9 = true := by kernel_rfl
theorem z9 : zeroCells Try.prog 9 = some [str []] := by kernel_rfl
theorem ty10 : tySz Try.prog 10 = some (false, 1, 16) := by kernel_rfl
theorem us10 : (Try.prog.underlying 10).isSome = true := by kernel_rfl
theorem st10 : Try.prog.underlying 10 = some .string := by kernel_rfl
abbrev et10 : ETy := ⟨1, 16⟩
theorem el10 : elemB Try.prog 10 et10 = true := by kernel_rfl
theorem z10 : zeroCells Try.prog 10 = some [str []] := by kernel_rfl
theorem ty11 : tySz Try.prog 11 = some (false, 1, 16) := by kernel_rfl
theorem us11 : (Try.prog.underlying 11).isSome = true := by kernel_rfl
theorem st11 : Try.prog.underlying 11 = some .string := by kernel_rfl
abbrev et11 : ETy := ⟨1, 16⟩
theorem el11 : elemB Try.prog 11 et11 = true := by kernel_rfl
theorem z11 : zeroCells Try.prog 11 = some [str []] := by kernel_rfl
theorem ty12 : tySz Try.prog 12 = some (false, 1, 8) := by kernel_rfl
theorem us12 : (Try.prog.underlying 12).isSome = true := by kernel_rfl
theorem iu12 : Try.prog.underlying 12 = some (.int .u64) := by kernel_rfl
abbrev et12 : ETy := ⟨1, 8⟩
theorem el12 : elemB Try.prog 12 et12 = true := by kernel_rfl
theorem z12 : zeroCells Try.prog 12 = some [.int .u64 0] := by kernel_rfl
theorem ty13 : tySz Try.prog 13 = some (true, 2, 24) := by kernel_rfl
theorem us13 : (Try.prog.underlying 13).isSome = true := by kernel_rfl
theorem pl13 : placesOf Try.prog 13 = some [(0, 1), (1, 1)] := by kernel_rfl
theorem fo13_0 : fieldOff Try.prog 13 0 = some 0 := by kernel_rfl
theorem fo13_1 : fieldOff Try.prog 13 1 = some 1 := by kernel_rfl
abbrev et13 : ETy := ⟨2, 24⟩
theorem el13 : elemB Try.prog 13 et13 = true := by kernel_rfl
theorem z13 : zeroCells Try.prog 13 = some [str [], .int .u64 0] := by kernel_rfl
theorem ty14 : tySz Try.prog 14 = some (true, 2, 24) := by kernel_rfl
theorem us14 : (Try.prog.underlying 14).isSome = true := by kernel_rfl
theorem pl14 : placesOf Try.prog 14 = some [(0, 1), (1, 1)] := by kernel_rfl
theorem fo14_0 : fieldOff Try.prog 14 0 = some 0 := by kernel_rfl
theorem fo14_1 : fieldOff Try.prog 14 1 = some 1 := by kernel_rfl
abbrev et14 : ETy := ⟨2, 24⟩
theorem el14 : elemB Try.prog 14 et14 = true := by kernel_rfl
theorem z14 : zeroCells Try.prog 14 = some [str [], .int .u64 0] := by kernel_rfl
theorem ty15 : tySz Try.prog 15 = some (false, 1, 8) := by kernel_rfl
theorem us15 : (Try.prog.underlying 15).isSome = true := by kernel_rfl
abbrev et15 : ETy := ⟨1, 8⟩
theorem el15 : elemB Try.prog 15 et15 = true := by kernel_rfl
theorem z15 : zeroCells Try.prog 15 = some [.pointer none] := by kernel_rfl
theorem ty16 : tySz Try.prog 16 = some (false, 1, 8) := by kernel_rfl
theorem us16 : (Try.prog.underlying 16).isSome = true := by kernel_rfl
abbrev et16 : ETy := ⟨1, 8⟩
theorem el16 : elemB Try.prog 16 et16 = true := by kernel_rfl
theorem z16 : zeroCells Try.prog 16 = some [.pointer none] := by kernel_rfl
theorem ty17 : tySz Try.prog 17 = some (false, 1, 8) := by kernel_rfl
theorem us17 : (Try.prog.underlying 17).isSome = true := by kernel_rfl
abbrev et17 : ETy := ⟨1, 8⟩
theorem el17 : elemB Try.prog 17 et17 = true := by kernel_rfl
theorem z17 : zeroCells Try.prog 17 = some [.pointer none] := by kernel_rfl
theorem ty18 : tySz Try.prog 18 = some (true, 1, 8) := by kernel_rfl
theorem us18 : (Try.prog.underlying 18).isSome = true := by kernel_rfl
theorem pl18 : placesOf Try.prog 18 = some [(0, 1)] := by kernel_rfl
theorem fo18_0 : fieldOff Try.prog 18 0 = some 0 := by kernel_rfl
abbrev et18 : ETy := ⟨1, 8⟩
theorem el18 : elemB Try.prog 18 et18 = true := by kernel_rfl
theorem z18 : zeroCells Try.prog 18 = some [.pointer none] := by kernel_rfl
theorem ty19 : tySz Try.prog 19 = some (true, 1, 8) := by kernel_rfl
theorem us19 : (Try.prog.underlying 19).isSome = true := by kernel_rfl
theorem pl19 : placesOf Try.prog 19 = some [(0, 1)] := by kernel_rfl
theorem fo19_0 : fieldOff Try.prog 19 0 = some 0 := by kernel_rfl
abbrev et19 : ETy := ⟨1, 8⟩
theorem el19 : elemB Try.prog 19 et19 = true := by kernel_rfl
theorem z19 : zeroCells Try.prog 19 = some [.pointer none] := by kernel_rfl
theorem ty20 : tySz Try.prog 20 = some (false, 1, 16) := by kernel_rfl
theorem us20 : (Try.prog.underlying 20).isSome = true := by kernel_rfl
abbrev et20 : ETy := ⟨1, 16⟩
theorem el20 : elemB Try.prog 20 et20 = true := by kernel_rfl
theorem z20 : zeroCells Try.prog 20 = some [.nilIface] := by kernel_rfl
theorem ty21 : tySz Try.prog 21 = some (false, 1, 4) := by kernel_rfl
theorem us21 : (Try.prog.underlying 21).isSome = true := by kernel_rfl
theorem iu21 : Try.prog.underlying 21 = some (.int .i32) := by kernel_rfl
abbrev et21 : ETy := ⟨1, 4⟩
theorem el21 : elemB Try.prog 21 et21 = true := by kernel_rfl
theorem z21 : zeroCells Try.prog 21 = some [.int .i32 0] := by kernel_rfl
theorem ty22 : tySz Try.prog 22 = some (false, 1, 8) := by kernel_rfl
theorem us22 : (Try.prog.underlying 22).isSome = true := by kernel_rfl
theorem iu22 : Try.prog.underlying 22 = some (.int .u64) := by kernel_rfl
abbrev et22 : ETy := ⟨1, 8⟩
theorem el22 : elemB Try.prog 22 et22 = true := by kernel_rfl
theorem z22 : zeroCells Try.prog 22 = some [.int .u64 0] := by kernel_rfl
theorem ty23 : tySz Try.prog 23 = some (false, 1, 24) := by kernel_rfl
theorem us23 : (Try.prog.underlying 23).isSome = true := by kernel_rfl
theorem sl23 : Try.prog.underlying 23 = some (.slice 9) := by kernel_rfl
abbrev et23 : ETy := ⟨1, 24⟩
theorem el23 : elemB Try.prog 23 et23 = true := by kernel_rfl
theorem z23 : zeroCells Try.prog 23 = some [.slice none 0 0] := by kernel_rfl
theorem ty24 : tySz Try.prog 24 = some (false, 1, 24) := by kernel_rfl
theorem us24 : (Try.prog.underlying 24).isSome = true := by kernel_rfl
theorem sl24 : Try.prog.underlying 24 = some (.slice 26) := by kernel_rfl
abbrev et24 : ETy := ⟨1, 24⟩
theorem el24 : elemB Try.prog 24 et24 = true := by kernel_rfl
theorem z24 : zeroCells Try.prog 24 = some [.slice none 0 0] := by kernel_rfl
theorem ty25 : tySz Try.prog 25 = some (true, 5, 80) := by kernel_rfl
theorem us25 : (Try.prog.underlying 25).isSome = true := by kernel_rfl
theorem pl25 : placesOf Try.prog 25 = some [(0, 1), (1, 1), (2, 1), (3, 1), (4, 1)] := by kernel_rfl
theorem fo25_0 : fieldOff Try.prog 25 0 = some 0 := by kernel_rfl
theorem fo25_1 : fieldOff Try.prog 25 1 = some 1 := by kernel_rfl
theorem fo25_2 : fieldOff Try.prog 25 2 = some 2 := by kernel_rfl
theorem fo25_3 : fieldOff Try.prog 25 3 = some 3 := by kernel_rfl
theorem fo25_4 : fieldOff Try.prog 25 4 = some 4 := by kernel_rfl
abbrev et25 : ETy := ⟨5, 80⟩
theorem el25 : elemB Try.prog 25 et25 = true := by kernel_rfl
theorem z25 : zeroCells Try.prog 25 = some [.int .i64 0, .int .u64 0, str [], .slice none 0 0, .slice none 0 0] := by kernel_rfl
theorem ty26 : tySz Try.prog 26 = some (true, 5, 80) := by kernel_rfl
theorem us26 : (Try.prog.underlying 26).isSome = true := by kernel_rfl
theorem pl26 : placesOf Try.prog 26 = some [(0, 1), (1, 1), (2, 1), (3, 1), (4, 1)] := by kernel_rfl
theorem fo26_0 : fieldOff Try.prog 26 0 = some 0 := by kernel_rfl
theorem fo26_1 : fieldOff Try.prog 26 1 = some 1 := by kernel_rfl
theorem fo26_2 : fieldOff Try.prog 26 2 = some 2 := by kernel_rfl
theorem fo26_3 : fieldOff Try.prog 26 3 = some 3 := by kernel_rfl
theorem fo26_4 : fieldOff Try.prog 26 4 = some 4 := by kernel_rfl
abbrev et26 : ETy := ⟨5, 80⟩
theorem el26 : elemB Try.prog 26 et26 = true := by kernel_rfl
theorem z26 : zeroCells Try.prog 26 = some [.int .i64 0, .int .u64 0, str [], .slice none 0 0, .slice none 0 0] := by kernel_rfl
theorem ty27 : tySz Try.prog 27 = some (false, 1, 8) := by kernel_rfl
theorem us27 : (Try.prog.underlying 27).isSome = true := by kernel_rfl
abbrev et27 : ETy := ⟨1, 8⟩
theorem el27 : elemB Try.prog 27 et27 = true := by kernel_rfl
theorem z27 : zeroCells Try.prog 27 = some [.nilFunc] := by kernel_rfl
theorem ty28 : tySz Try.prog 28 = some (false, 1, 8) := by kernel_rfl
theorem us28 : (Try.prog.underlying 28).isSome = true := by kernel_rfl
theorem iu28 : Try.prog.underlying 28 = some (.int .i64) := by kernel_rfl
abbrev et28 : ETy := ⟨1, 8⟩
theorem el28 : elemB Try.prog 28 et28 = true := by kernel_rfl
theorem z28 : zeroCells Try.prog 28 = some [.int .i64 0] := by kernel_rfl
theorem ty29 : tySz Try.prog 29 = some (false, 1, 0) := by kernel_rfl
theorem us29 : (Try.prog.underlying 29).isSome = true := by kernel_rfl
theorem ty30 : tySz Try.prog 30 = some (false, 1, 8) := by kernel_rfl
theorem us30 : (Try.prog.underlying 30).isSome = true := by kernel_rfl
abbrev et30 : ETy := ⟨1, 8⟩
theorem el30 : elemB Try.prog 30 et30 = true := by kernel_rfl
theorem z30 : zeroCells Try.prog 30 = some [.nilFunc] := by kernel_rfl
theorem ty31 : tySz Try.prog 31 = some (false, 1, 0) := by kernel_rfl
theorem us31 : (Try.prog.underlying 31).isSome = true := by kernel_rfl
theorem ty32 : tySz Try.prog 32 = some (false, 1, 8) := by kernel_rfl
theorem us32 : (Try.prog.underlying 32).isSome = true := by kernel_rfl
abbrev et32 : ETy := ⟨1, 8⟩
theorem el32 : elemB Try.prog 32 et32 = true := by kernel_rfl
theorem z32 : zeroCells Try.prog 32 = some [.nilFunc] := by kernel_rfl
theorem ty33 : tySz Try.prog 33 = some (false, 1, 8) := by kernel_rfl
theorem us33 : (Try.prog.underlying 33).isSome = true := by kernel_rfl
abbrev et33 : ETy := ⟨1, 8⟩
theorem el33 : elemB Try.prog 33 et33 = true := by kernel_rfl
theorem z33 : zeroCells Try.prog 33 = some [.nilFunc] := by kernel_rfl
theorem ty34 : tySz Try.prog 34 = some (false, 1, 8) := by kernel_rfl
theorem us34 : (Try.prog.underlying 34).isSome = true := by kernel_rfl
abbrev et34 : ETy := ⟨1, 8⟩
theorem el34 : elemB Try.prog 34 et34 = true := by kernel_rfl
theorem z34 : zeroCells Try.prog 34 = some [.nilFunc] := by kernel_rfl
theorem ty35 : tySz Try.prog 35 = some (false, 1, 8) := by kernel_rfl
theorem us35 : (Try.prog.underlying 35).isSome = true := by kernel_rfl
abbrev et35 : ETy := ⟨1, 8⟩
theorem el35 : elemB Try.prog 35 et35 = true := by kernel_rfl
theorem z35 : zeroCells Try.prog 35 = some [.nilFunc] := by kernel_rfl
theorem ty36 : tySz Try.prog 36 = some (false, 1, 8) := by kernel_rfl
theorem us36 : (Try.prog.underlying 36).isSome = true := by kernel_rfl
abbrev et36 : ETy := ⟨1, 8⟩
theorem el36 : elemB Try.prog 36 et36 = true := by kernel_rfl
theorem z36 : zeroCells Try.prog 36 = some [.nilFunc] := by kernel_rfl
theorem ty37 : tySz Try.prog 37 = some (false, 1, 8) := by kernel_rfl
theorem us37 : (Try.prog.underlying 37).isSome = true := by kernel_rfl
abbrev et37 : ETy := ⟨1, 8⟩
theorem el37 : elemB Try.prog 37 et37 = true := by kernel_rfl
theorem z37 : zeroCells Try.prog 37 = some [.nilFunc] := by kernel_rfl
theorem ty38 : tySz Try.prog 38 = some (false, 1, 8) := by kernel_rfl
theorem us38 : (Try.prog.underlying 38).isSome = true := by kernel_rfl
abbrev et38 : ETy := ⟨1, 8⟩
theorem el38 : elemB Try.prog 38 et38 = true := by kernel_rfl
theorem z38 : zeroCells Try.prog 38 = some [.nilFunc] := by kernel_rfl
theorem ty39 : tySz Try.prog 39 = some (false, 1, 24) := by kernel_rfl
theorem us39 : (Try.prog.underlying 39).isSome = true := by kernel_rfl
theorem sl39 : Try.prog.underlying 39 = some (.slice 48) := by kernel_rfl
abbrev et39 : ETy := ⟨1, 24⟩
theorem el39 : elemB Try.prog 39 et39 = true := by kernel_rfl
theorem z39 : zeroCells Try.prog 39 = some [.slice none 0 0] := by kernel_rfl
theorem ty40 : tySz Try.prog 40 = some (false, 1, 0) := by kernel_rfl
theorem us40 : (Try.prog.underlying 40).isSome = true := by kernel_rfl
theorem ty41 : tySz Try.prog 41 = some (false, 1, 8) := by kernel_rfl
theorem us41 : (Try.prog.underlying 41).isSome = true := by kernel_rfl
abbrev et41 : ETy := ⟨1, 8⟩
theorem el41 : elemB Try.prog 41 et41 = true := by kernel_rfl
theorem z41 : zeroCells Try.prog 41 = some [.nilFunc] := by kernel_rfl
theorem ty42 : tySz Try.prog 42 = some (false, 1, 0) := by kernel_rfl
theorem us42 : (Try.prog.underlying 42).isSome = true := by kernel_rfl
theorem ty43 : tySz Try.prog 43 = some (false, 1, 8) := by kernel_rfl
theorem us43 : (Try.prog.underlying 43).isSome = true := by kernel_rfl
abbrev et43 : ETy := ⟨1, 8⟩
theorem el43 : elemB Try.prog 43 et43 = true := by kernel_rfl
theorem z43 : zeroCells Try.prog 43 = some [.nilFunc] := by kernel_rfl
theorem ty44 : tySz Try.prog 44 = some (false, 1, 8) := by kernel_rfl
theorem us44 : (Try.prog.underlying 44).isSome = true := by kernel_rfl
abbrev et44 : ETy := ⟨1, 8⟩
theorem el44 : elemB Try.prog 44 et44 = true := by kernel_rfl
theorem z44 : zeroCells Try.prog 44 = some [.nilFunc] := by kernel_rfl
theorem ty45 : tySz Try.prog 45 = some (false, 1, 8) := by kernel_rfl
theorem us45 : (Try.prog.underlying 45).isSome = true := by kernel_rfl
abbrev et45 : ETy := ⟨1, 8⟩
theorem el45 : elemB Try.prog 45 et45 = true := by kernel_rfl
theorem z45 : zeroCells Try.prog 45 = some [.nilFunc] := by kernel_rfl
theorem ty46 : tySz Try.prog 46 = some (false, 1, 8) := by kernel_rfl
theorem us46 : (Try.prog.underlying 46).isSome = true := by kernel_rfl
abbrev et46 : ETy := ⟨1, 8⟩
theorem el46 : elemB Try.prog 46 et46 = true := by kernel_rfl
theorem z46 : zeroCells Try.prog 46 = some [.nilFunc] := by kernel_rfl
theorem ty47 : tySz Try.prog 47 = some (true, 3, 32) := by kernel_rfl
theorem us47 : (Try.prog.underlying 47).isSome = true := by kernel_rfl
theorem pl47 : placesOf Try.prog 47 = some [(0, 1), (1, 1), (2, 1)] := by kernel_rfl
theorem fo47_0 : fieldOff Try.prog 47 0 = some 0 := by kernel_rfl
theorem fo47_1 : fieldOff Try.prog 47 1 = some 1 := by kernel_rfl
theorem fo47_2 : fieldOff Try.prog 47 2 = some 2 := by kernel_rfl
abbrev et47 : ETy := ⟨3, 32⟩
theorem el47 : elemB Try.prog 47 et47 = true := by kernel_rfl
theorem z47 : zeroCells Try.prog 47 = some [.bool false, str [], .int .i64 0] := by kernel_rfl
theorem ty48 : tySz Try.prog 48 = some (true, 3, 32) := by kernel_rfl
theorem us48 : (Try.prog.underlying 48).isSome = true := by kernel_rfl
theorem pl48 : placesOf Try.prog 48 = some [(0, 1), (1, 1), (2, 1)] := by kernel_rfl
theorem fo48_0 : fieldOff Try.prog 48 0 = some 0 := by kernel_rfl
theorem fo48_1 : fieldOff Try.prog 48 1 = some 1 := by kernel_rfl
theorem fo48_2 : fieldOff Try.prog 48 2 = some 2 := by kernel_rfl
abbrev et48 : ETy := ⟨3, 32⟩
theorem el48 : elemB Try.prog 48 et48 = true := by kernel_rfl
theorem z48 : zeroCells Try.prog 48 = some [.bool false, str [], .int .i64 0] := by kernel_rfl
theorem ty49 : tySz Try.prog 49 = some (false, 1, 8) := by kernel_rfl
theorem us49 : (Try.prog.underlying 49).isSome = true := by kernel_rfl
abbrev et49 : ETy := ⟨1, 8⟩
theorem el49 : elemB Try.prog 49 et49 = true := by kernel_rfl
theorem z49 : zeroCells Try.prog 49 = some [.nilFunc] := by kernel_rfl
theorem ty50 : tySz Try.prog 50 = some (false, 1, 8) := by kernel_rfl
theorem us50 : (Try.prog.underlying 50).isSome = true := by kernel_rfl
abbrev et50 : ETy := ⟨1, 8⟩
theorem el50 : elemB Try.prog 50 et50 = true := by kernel_rfl
theorem z50 : zeroCells Try.prog 50 = some [.nilFunc] := by kernel_rfl
theorem ty51 : tySz Try.prog 51 = some (false, 1, 0) := by kernel_rfl
theorem us51 : (Try.prog.underlying 51).isSome = true := by kernel_rfl
theorem ty52 : tySz Try.prog 52 = some (false, 1, 8) := by kernel_rfl
theorem us52 : (Try.prog.underlying 52).isSome = true := by kernel_rfl
abbrev et52 : ETy := ⟨1, 8⟩
theorem el52 : elemB Try.prog 52 et52 = true := by kernel_rfl
theorem z52 : zeroCells Try.prog 52 = some [.nilFunc] := by kernel_rfl
theorem ty53 : tySz Try.prog 53 = some (false, 1, 8) := by kernel_rfl
theorem us53 : (Try.prog.underlying 53).isSome = true := by kernel_rfl
abbrev et53 : ETy := ⟨1, 8⟩
theorem el53 : elemB Try.prog 53 et53 = true := by kernel_rfl
theorem z53 : zeroCells Try.prog 53 = some [.nilFunc] := by kernel_rfl
theorem ty54 : tySz Try.prog 54 = some (false, 1, 0) := by kernel_rfl
theorem us54 : (Try.prog.underlying 54).isSome = true := by kernel_rfl
theorem ty55 : tySz Try.prog 55 = some (false, 1, 8) := by kernel_rfl
theorem us55 : (Try.prog.underlying 55).isSome = true := by kernel_rfl
abbrev et55 : ETy := ⟨1, 8⟩
theorem el55 : elemB Try.prog 55 et55 = true := by kernel_rfl
theorem z55 : zeroCells Try.prog 55 = some [.nilFunc] := by kernel_rfl
theorem ty56 : tySz Try.prog 56 = some (false, 1, 24) := by kernel_rfl
theorem us56 : (Try.prog.underlying 56).isSome = true := by kernel_rfl
theorem sl56 : Try.prog.underlying 56 = some (.slice 70) := by kernel_rfl
abbrev et56 : ETy := ⟨1, 24⟩
theorem el56 : elemB Try.prog 56 et56 = true := by kernel_rfl
theorem z56 : zeroCells Try.prog 56 = some [.slice none 0 0] := by kernel_rfl
theorem ty57 : tySz Try.prog 57 = some (true, 3, 40) := by kernel_rfl
theorem us57 : (Try.prog.underlying 57).isSome = true := by kernel_rfl
theorem pl57 : placesOf Try.prog 57 = some [(0, 1), (1, 1), (2, 1)] := by kernel_rfl
theorem fo57_0 : fieldOff Try.prog 57 0 = some 0 := by kernel_rfl
theorem fo57_1 : fieldOff Try.prog 57 1 = some 1 := by kernel_rfl
theorem fo57_2 : fieldOff Try.prog 57 2 = some 2 := by kernel_rfl
abbrev et57 : ETy := ⟨3, 40⟩
theorem el57 : elemB Try.prog 57 et57 = true := by kernel_rfl
theorem z57 : zeroCells Try.prog 57 = some [.int .i64 0, .int .i64 0, .slice none 0 0] := by kernel_rfl
theorem ty58 : tySz Try.prog 58 = some (true, 3, 40) := by kernel_rfl
theorem us58 : (Try.prog.underlying 58).isSome = true := by kernel_rfl
theorem pl58 : placesOf Try.prog 58 = some [(0, 1), (1, 1), (2, 1)] := by kernel_rfl
theorem fo58_0 : fieldOff Try.prog 58 0 = some 0 := by kernel_rfl
theorem fo58_1 : fieldOff Try.prog 58 1 = some 1 := by kernel_rfl
theorem fo58_2 : fieldOff Try.prog 58 2 = some 2 := by kernel_rfl
abbrev et58 : ETy := ⟨3, 40⟩
theorem el58 : elemB Try.prog 58 et58 = true := by kernel_rfl
theorem z58 : zeroCells Try.prog 58 = some [.int .i64 0, .int .i64 0, .slice none 0 0] := by kernel_rfl
theorem ty59 : tySz Try.prog 59 = some (false, 1, 0) := by kernel_rfl
theorem us59 : (Try.prog.underlying 59).isSome = true := by kernel_rfl
theorem ty60 : tySz Try.prog 60 = some (false, 1, 8) := by kernel_rfl
theorem us60 : (Try.prog.underlying 60).isSome = true := by kernel_rfl
abbrev et60 : ETy := ⟨1, 8⟩
theorem el60 : elemB Try.prog 60 et60 = true := by kernel_rfl
theorem z60 : zeroCells Try.prog 60 = some [.nilFunc] := by kernel_rfl
theorem ty61 : tySz Try.prog 61 = some (true, 3, 40) := by kernel_rfl
theorem us61 : (Try.prog.underlying 61).isSome = true := by kernel_rfl
theorem pl61 : placesOf Try.prog 61 = some [(0, 1), (1, 1), (2, 1)] := by kernel_rfl
theorem fo61_0 : fieldOff Try.prog 61 0 = some 0 := by kernel_rfl
theorem fo61_1 : fieldOff Try.prog 61 1 = some 1 := by kernel_rfl
theorem fo61_2 : fieldOff Try.prog 61 2 = some 2 := by kernel_rfl
abbrev et61 : ETy := ⟨3, 40⟩
theorem el61 : elemB Try.prog 61 et61 = true := by kernel_rfl
theorem z61 : zeroCells Try.prog 61 = some [.int .i64 0, .int .i64 0, .slice none 0 0] := by kernel_rfl
theorem ty62 : tySz Try.prog 62 = some (false, 1, 0) := by kernel_rfl
theorem us62 : (Try.prog.underlying 62).isSome = true := by kernel_rfl
theorem ty63 : tySz Try.prog 63 = some (false, 1, 8) := by kernel_rfl
theorem us63 : (Try.prog.underlying 63).isSome = true := by kernel_rfl
abbrev et63 : ETy := ⟨1, 8⟩
theorem el63 : elemB Try.prog 63 et63 = true := by kernel_rfl
theorem z63 : zeroCells Try.prog 63 = some [.nilFunc] := by kernel_rfl
theorem ty64 : tySz Try.prog 64 = some (false, 1, 8) := by kernel_rfl
theorem us64 : (Try.prog.underlying 64).isSome = true := by kernel_rfl
abbrev et64 : ETy := ⟨1, 8⟩
theorem el64 : elemB Try.prog 64 et64 = true := by kernel_rfl
theorem z64 : zeroCells Try.prog 64 = some [.nilFunc] := by kernel_rfl
theorem ty65 : tySz Try.prog 65 = some (false, 1, 8) := by kernel_rfl
theorem us65 : (Try.prog.underlying 65).isSome = true := by kernel_rfl
abbrev et65 : ETy := ⟨1, 8⟩
theorem el65 : elemB Try.prog 65 et65 = true := by kernel_rfl
theorem z65 : zeroCells Try.prog 65 = some [.nilFunc] := by kernel_rfl
theorem ty66 : tySz Try.prog 66 = some (false, 1, 24) := by kernel_rfl
theorem us66 : (Try.prog.underlying 66).isSome = true := by kernel_rfl
theorem sl66 : Try.prog.underlying 66 = some (.slice 3) := by kernel_rfl
abbrev et66 : ETy := ⟨1, 24⟩
theorem el66 : elemB Try.prog 66 et66 = true := by kernel_rfl
theorem z66 : zeroCells Try.prog 66 = some [.slice none 0 0] := by kernel_rfl
theorem ty67 : tySz Try.prog 67 = some (false, 1, 0) := by kernel_rfl
theorem us67 : (Try.prog.underlying 67).isSome = true := by kernel_rfl
theorem ty68 : tySz Try.prog 68 = some (false, 1, 8) := by kernel_rfl
theorem us68 : (Try.prog.underlying 68).isSome = true := by kernel_rfl
abbrev et68 : ETy := ⟨1, 8⟩
theorem el68 : elemB Try.prog 68 et68 = true := by kernel_rfl
theorem z68 : zeroCells Try.prog 68 = some [.nilFunc] := by kernel_rfl
theorem ty69 : tySz Try.prog 69 = some (true, 6, 96) := by kernel_rfl
theorem us69 : (Try.prog.underlying 69).isSome = true := by kernel_rfl
theorem pl69 : placesOf Try.prog 69 = some [(0, 1), (1, 5)] := by kernel_rfl
theorem fo69_0 : fieldOff Try.prog 69 0 = some 0 := by kernel_rfl
theorem fo69_1 : fieldOff Try.prog 69 1 = some 1 := by kernel_rfl
abbrev et69 : ETy := ⟨6, 96⟩
theorem el69 : elemB Try.prog 69 et69 = true := by kernel_rfl
theorem z69 : zeroCells Try.prog 69 = some [str [], .int .i64 0, .int .u64 0, str [], .slice none 0 0, .slice none 0 0] := by kernel_rfl
theorem ty70 : tySz Try.prog 70 = some (true, 6, 96) := by kernel_rfl
theorem us70 : (Try.prog.underlying 70).isSome = true := by kernel_rfl
theorem pl70 : placesOf Try.prog 70 = some [(0, 1), (1, 5)] := by kernel_rfl
theorem fo70_0 : fieldOff Try.prog 70 0 = some 0 := by kernel_rfl
theorem fo70_1 : fieldOff Try.prog 70 1 = some 1 := by kernel_rfl
abbrev et70 : ETy := ⟨6, 96⟩
theorem el70 : elemB Try.prog 70 et70 = true := by kernel_rfl
theorem z70 : zeroCells Try.prog 70 = some [str [], .int .i64 0, .int .u64 0, str [], .slice none 0 0, .slice none 0 0] := by kernel_rfl
theorem ty71 : tySz Try.prog 71 = some (false, 1, 0) := by kernel_rfl
theorem us71 : (Try.prog.underlying 71).isSome = true := by kernel_rfl
theorem ty72 : tySz Try.prog 72 = some (false, 1, 8) := by kernel_rfl
theorem us72 : (Try.prog.underlying 72).isSome = true := by kernel_rfl
abbrev et72 : ETy := ⟨1, 8⟩
theorem el72 : elemB Try.prog 72 et72 = true := by kernel_rfl
theorem z72 : zeroCells Try.prog 72 = some [.nilFunc] := by kernel_rfl
theorem ty73 : tySz Try.prog 73 = some (false, 1, 8) := by kernel_rfl
theorem us73 : (Try.prog.underlying 73).isSome = true := by kernel_rfl
abbrev et73 : ETy := ⟨1, 8⟩
theorem el73 : elemB Try.prog 73 et73 = true := by kernel_rfl
theorem z73 : zeroCells Try.prog 73 = some [.nilFunc] := by kernel_rfl
theorem ty74 : tySz Try.prog 74 = some (false, 1, 8) := by kernel_rfl
theorem us74 : (Try.prog.underlying 74).isSome = true := by kernel_rfl
abbrev et74 : ETy := ⟨1, 8⟩
theorem el74 : elemB Try.prog 74 et74 = true := by kernel_rfl
theorem z74 : zeroCells Try.prog 74 = some [.nilFunc] := by kernel_rfl
theorem ty75 : tySz Try.prog 75 = some (false, 1, 8) := by kernel_rfl
theorem us75 : (Try.prog.underlying 75).isSome = true := by kernel_rfl
abbrev et75 : ETy := ⟨1, 8⟩
theorem el75 : elemB Try.prog 75 et75 = true := by kernel_rfl
theorem z75 : zeroCells Try.prog 75 = some [.nilFunc] := by kernel_rfl
theorem ty76 : tySz Try.prog 76 = some (false, 1, 0) := by kernel_rfl
theorem us76 : (Try.prog.underlying 76).isSome = true := by kernel_rfl
theorem ty77 : tySz Try.prog 77 = some (false, 1, 8) := by kernel_rfl
theorem us77 : (Try.prog.underlying 77).isSome = true := by kernel_rfl
abbrev et77 : ETy := ⟨1, 8⟩
theorem el77 : elemB Try.prog 77 et77 = true := by kernel_rfl
theorem z77 : zeroCells Try.prog 77 = some [.nilFunc] := by kernel_rfl
theorem ty78 : tySz Try.prog 78 = some (false, 1, 0) := by kernel_rfl
theorem us78 : (Try.prog.underlying 78).isSome = true := by kernel_rfl
theorem ty79 : tySz Try.prog 79 = some (false, 1, 8) := by kernel_rfl
theorem us79 : (Try.prog.underlying 79).isSome = true := by kernel_rfl
abbrev et79 : ETy := ⟨1, 8⟩
theorem el79 : elemB Try.prog 79 et79 = true := by kernel_rfl
theorem z79 : zeroCells Try.prog 79 = some [.nilFunc] := by kernel_rfl
theorem ty80 : tySz Try.prog 80 = some (false, 1, 8) := by kernel_rfl
theorem us80 : (Try.prog.underlying 80).isSome = true := by kernel_rfl
abbrev et80 : ETy := ⟨1, 8⟩
theorem el80 : elemB Try.prog 80 et80 = true := by kernel_rfl
theorem z80 : zeroCells Try.prog 80 = some [.nilFunc] := by kernel_rfl
theorem ty81 : tySz Try.prog 81 = some (false, 1, 0) := by kernel_rfl
theorem us81 : (Try.prog.underlying 81).isSome = true := by kernel_rfl
theorem ty82 : tySz Try.prog 82 = some (false, 1, 8) := by kernel_rfl
theorem us82 : (Try.prog.underlying 82).isSome = true := by kernel_rfl
abbrev et82 : ETy := ⟨1, 8⟩
theorem el82 : elemB Try.prog 82 et82 = true := by kernel_rfl
theorem z82 : zeroCells Try.prog 82 = some [.nilFunc] := by kernel_rfl
theorem ty83 : tySz Try.prog 83 = some (false, 1, 0) := by kernel_rfl
theorem us83 : (Try.prog.underlying 83).isSome = true := by kernel_rfl
theorem ty84 : tySz Try.prog 84 = some (false, 1, 8) := by kernel_rfl
theorem us84 : (Try.prog.underlying 84).isSome = true := by kernel_rfl
abbrev et84 : ETy := ⟨1, 8⟩
theorem el84 : elemB Try.prog 84 et84 = true := by kernel_rfl
theorem z84 : zeroCells Try.prog 84 = some [.nilFunc] := by kernel_rfl
theorem ty85 : tySz Try.prog 85 = some (false, 1, 8) := by kernel_rfl
theorem us85 : (Try.prog.underlying 85).isSome = true := by kernel_rfl
abbrev et85 : ETy := ⟨1, 8⟩
theorem el85 : elemB Try.prog 85 et85 = true := by kernel_rfl
theorem z85 : zeroCells Try.prog 85 = some [.nilFunc] := by kernel_rfl
theorem ty86 : tySz Try.prog 86 = some (false, 1, 8) := by kernel_rfl
theorem us86 : (Try.prog.underlying 86).isSome = true := by kernel_rfl
abbrev et86 : ETy := ⟨1, 8⟩
theorem el86 : elemB Try.prog 86 et86 = true := by kernel_rfl
theorem z86 : zeroCells Try.prog 86 = some [.nilFunc] := by kernel_rfl
theorem ty87 : tySz Try.prog 87 = some (false, 1, 8) := by kernel_rfl
theorem us87 : (Try.prog.underlying 87).isSome = true := by kernel_rfl
abbrev et87 : ETy := ⟨1, 8⟩
theorem el87 : elemB Try.prog 87 et87 = true := by kernel_rfl
theorem z87 : zeroCells Try.prog 87 = some [.nilFunc] := by kernel_rfl
theorem ty88 : tySz Try.prog 88 = some (false, 1, 24) := by kernel_rfl
theorem us88 : (Try.prog.underlying 88).isSome = true := by kernel_rfl
theorem sl88 : Try.prog.underlying 88 = some (.slice 116) := by kernel_rfl
abbrev et88 : ETy := ⟨1, 24⟩
theorem el88 : elemB Try.prog 88 et88 = true := by kernel_rfl
theorem z88 : zeroCells Try.prog 88 = some [.slice none 0 0] := by kernel_rfl
theorem ty89 : tySz Try.prog 89 = some (true, 2, 32) := by kernel_rfl
theorem us89 : (Try.prog.underlying 89).isSome = true := by kernel_rfl
theorem pl89 : placesOf Try.prog 89 = some [(0, 1), (1, 1)] := by kernel_rfl
theorem fo89_0 : fieldOff Try.prog 89 0 = some 0 := by kernel_rfl
theorem fo89_1 : fieldOff Try.prog 89 1 = some 1 := by kernel_rfl
abbrev et89 : ETy := ⟨2, 32⟩
theorem el89 : elemB Try.prog 89 et89 = true := by kernel_rfl
theorem z89 : zeroCells Try.prog 89 = some [.int .i64 0, .slice none 0 0] := by kernel_rfl
theorem ty90 : tySz Try.prog 90 = some (true, 2, 32) := by kernel_rfl
theorem us90 : (Try.prog.underlying 90).isSome = true := by kernel_rfl
theorem pl90 : placesOf Try.prog 90 = some [(0, 1), (1, 1)] := by kernel_rfl
theorem fo90_0 : fieldOff Try.prog 90 0 = some 0 := by kernel_rfl
theorem fo90_1 : fieldOff Try.prog 90 1 = some 1 := by kernel_rfl
abbrev et90 : ETy := ⟨2, 32⟩
theorem el90 : elemB Try.prog 90 et90 = true := by kernel_rfl
theorem z90 : zeroCells Try.prog 90 = some [.int .i64 0, .slice none 0 0] := by kernel_rfl
theorem ty91 : tySz Try.prog 91 = some (false, 1, 24) := by kernel_rfl
theorem us91 : (Try.prog.underlying 91).isSome = true := by kernel_rfl
theorem sl91 : Try.prog.underlying 91 = some (.slice 114) := by kernel_rfl
abbrev et91 : ETy := ⟨1, 24⟩
theorem el91 : elemB Try.prog 91 et91 = true := by kernel_rfl
theorem z91 : zeroCells Try.prog 91 = some [.slice none 0 0] := by kernel_rfl
theorem ty92 : tySz Try.prog 92 = some (true, 2, 32) := by kernel_rfl
theorem us92 : (Try.prog.underlying 92).isSome = true := by kernel_rfl
theorem pl92 : placesOf Try.prog 92 = some [(0, 1), (1, 1)] := by kernel_rfl
theorem fo92_0 : fieldOff Try.prog 92 0 = some 0 := by kernel_rfl
theorem fo92_1 : fieldOff Try.prog 92 1 = some 1 := by kernel_rfl
abbrev et92 : ETy := ⟨2, 32⟩
theorem el92 : elemB Try.prog 92 et92 = true := by kernel_rfl
theorem z92 : zeroCells Try.prog 92 = some [.int .i64 0, .slice none 0 0] := by kernel_rfl
theorem ty93 : tySz Try.prog 93 = some (false, 1, 8) := by kernel_rfl
theorem us93 : (Try.prog.underlying 93).isSome = true := by kernel_rfl
abbrev et93 : ETy := ⟨1, 8⟩
theorem el93 : elemB Try.prog 93 et93 = true := by kernel_rfl
theorem z93 : zeroCells Try.prog 93 = some [.nilFunc] := by kernel_rfl
theorem ty94 : tySz Try.prog 94 = some (false, 1, 8) := by kernel_rfl
theorem us94 : (Try.prog.underlying 94).isSome = true := by kernel_rfl
abbrev et94 : ETy := ⟨1, 8⟩
theorem el94 : elemB Try.prog 94 et94 = true := by kernel_rfl
theorem z94 : zeroCells Try.prog 94 = some [.nilFunc] := by kernel_rfl
theorem ty95 : tySz Try.prog 95 = some (false, 1, 0) := by kernel_rfl
theorem us95 : (Try.prog.underlying 95).isSome = true := by kernel_rfl
theorem ty96 : tySz Try.prog 96 = some (false, 1, 8) := by kernel_rfl
theorem us96 : (Try.prog.underlying 96).isSome = true := by kernel_rfl
abbrev et96 : ETy := ⟨1, 8⟩
theorem el96 : elemB Try.prog 96 et96 = true := by kernel_rfl
theorem z96 : zeroCells Try.prog 96 = some [.nilFunc] := by kernel_rfl
theorem ty97 : tySz Try.prog 97 = some (false, 1, 0) := by kernel_rfl
theorem us97 : (Try.prog.underlying 97).isSome = true := by kernel_rfl
theorem ty98 : tySz Try.prog 98 = some (false, 1, 8) := by kernel_rfl
theorem us98 : (Try.prog.underlying 98).isSome = true := by kernel_rfl
abbrev et98 : ETy := ⟨1, 8⟩
theorem el98 : elemB Try.prog 98 et98 = true := by kernel_rfl
theorem z98 : zeroCells Try.prog 98 = some [.nilFunc] := by kernel_rfl
theorem ty99 : tySz Try.prog 99 = some (false, 1, 0) := by kernel_rfl
theorem us99 : (Try.prog.underlying 99).isSome = true := by kernel_rfl
theorem ty100 : tySz Try.prog 100 = some (false, 1, 8) := by kernel_rfl
theorem us100 : (Try.prog.underlying 100).isSome = true := by kernel_rfl
abbrev et100 : ETy := ⟨1, 8⟩
theorem el100 : elemB Try.prog 100 et100 = true := by kernel_rfl
theorem z100 : zeroCells Try.prog 100 = some [.nilFunc] := by kernel_rfl
theorem ty101 : tySz Try.prog 101 = some (false, 1, 0) := by kernel_rfl
theorem us101 : (Try.prog.underlying 101).isSome = true := by kernel_rfl
theorem ty102 : tySz Try.prog 102 = some (false, 1, 8) := by kernel_rfl
theorem us102 : (Try.prog.underlying 102).isSome = true := by kernel_rfl
abbrev et102 : ETy := ⟨1, 8⟩
theorem el102 : elemB Try.prog 102 et102 = true := by kernel_rfl
theorem z102 : zeroCells Try.prog 102 = some [.nilFunc] := by kernel_rfl
theorem ty103 : tySz Try.prog 103 = some (false, 1, 0) := by kernel_rfl
theorem us103 : (Try.prog.underlying 103).isSome = true := by kernel_rfl
theorem ty104 : tySz Try.prog 104 = some (false, 1, 8) := by kernel_rfl
theorem us104 : (Try.prog.underlying 104).isSome = true := by kernel_rfl
abbrev et104 : ETy := ⟨1, 8⟩
theorem el104 : elemB Try.prog 104 et104 = true := by kernel_rfl
theorem z104 : zeroCells Try.prog 104 = some [.nilFunc] := by kernel_rfl
theorem ty105 : tySz Try.prog 105 = some (false, 1, 0) := by kernel_rfl
theorem us105 : (Try.prog.underlying 105).isSome = true := by kernel_rfl
theorem ty106 : tySz Try.prog 106 = some (false, 1, 8) := by kernel_rfl
theorem us106 : (Try.prog.underlying 106).isSome = true := by kernel_rfl
abbrev et106 : ETy := ⟨1, 8⟩
theorem el106 : elemB Try.prog 106 et106 = true := by kernel_rfl
theorem z106 : zeroCells Try.prog 106 = some [.nilFunc] := by kernel_rfl
theorem ty107 : tySz Try.prog 107 = some (false, 1, 8) := by kernel_rfl
theorem us107 : (Try.prog.underlying 107).isSome = true := by kernel_rfl
abbrev et107 : ETy := ⟨1, 8⟩
theorem el107 : elemB Try.prog 107 et107 = true := by kernel_rfl
theorem z107 : zeroCells Try.prog 107 = some [.nilFunc] := by kernel_rfl
theorem ty108 : tySz Try.prog 108 = some (false, 1, 8) := by kernel_rfl
theorem us108 : (Try.prog.underlying 108).isSome = true := by kernel_rfl
abbrev et108 : ETy := ⟨1, 8⟩
theorem el108 : elemB Try.prog 108 et108 = true := by kernel_rfl
theorem z108 : zeroCells Try.prog 108 = some [.nilFunc] := by kernel_rfl
theorem ty109 : tySz Try.prog 109 = some (false, 1, 8) := by kernel_rfl
theorem us109 : (Try.prog.underlying 109).isSome = true := by kernel_rfl
abbrev et109 : ETy := ⟨1, 8⟩
theorem el109 : elemB Try.prog 109 et109 = true := by kernel_rfl
theorem z109 : zeroCells Try.prog 109 = some [.nilFunc] := by kernel_rfl
theorem ty110 : tySz Try.prog 110 = some (false, 1, 8) := by kernel_rfl
theorem us110 : (Try.prog.underlying 110).isSome = true := by kernel_rfl
abbrev et110 : ETy := ⟨1, 8⟩
theorem el110 : elemB Try.prog 110 et110 = true := by kernel_rfl
theorem z110 : zeroCells Try.prog 110 = some [.nilFunc] := by kernel_rfl
theorem ty111 : tySz Try.prog 111 = some (false, 1, 8) := by kernel_rfl
theorem us111 : (Try.prog.underlying 111).isSome = true := by kernel_rfl
abbrev et111 : ETy := ⟨1, 8⟩
theorem el111 : elemB Try.prog 111 et111 = true := by kernel_rfl
theorem z111 : zeroCells Try.prog 111 = some [.nilFunc] := by kernel_rfl
theorem ty112 : tySz Try.prog 112 = some (false, 1, 8) := by kernel_rfl
theorem us112 : (Try.prog.underlying 112).isSome = true := by kernel_rfl
abbrev et112 : ETy := ⟨1, 8⟩
theorem el112 : elemB Try.prog 112 et112 = true := by kernel_rfl
theorem z112 : zeroCells Try.prog 112 = some [.nilFunc] := by kernel_rfl
theorem ty113 : tySz Try.prog 113 = some (false, 1, 8) := by kernel_rfl
theorem us113 : (Try.prog.underlying 113).isSome = true := by kernel_rfl
abbrev et113 : ETy := ⟨1, 8⟩
theorem el113 : elemB Try.prog 113 et113 = true := by kernel_rfl
theorem z113 : zeroCells Try.prog 113 = some [.nilFunc] := by kernel_rfl
theorem ty114 : tySz Try.prog 114 = some (true, 6, 96) := by kernel_rfl
theorem us114 : (Try.prog.underlying 114).isSome = true := by kernel_rfl
theorem pl114 : placesOf Try.prog 114 = some [(0, 1), (1, 5)] := by kernel_rfl
theorem fo114_0 : fieldOff Try.prog 114 0 = some 0 := by kernel_rfl
theorem fo114_1 : fieldOff Try.prog 114 1 = some 1 := by kernel_rfl
abbrev et114 : ETy := ⟨6, 96⟩
theorem el114 : elemB Try.prog 114 et114 = true := by kernel_rfl
theorem z114 : zeroCells Try.prog 114 = some [str [], .int .i64 0, .int .u64 0, str [], .slice none 0 0, .slice none 0 0] := by kernel_rfl
theorem ty115 : tySz Try.prog 115 = some (true, 7, 104) := by kernel_rfl
theorem us115 : (Try.prog.underlying 115).isSome = true := by kernel_rfl
theorem pl115 : placesOf Try.prog 115 = some [(0, 1), (1, 6)] := by kernel_rfl
theorem fo115_0 : fieldOff Try.prog 115 0 = some 0 := by kernel_rfl
theorem fo115_1 : fieldOff Try.prog 115 1 = some 1 := by kernel_rfl
abbrev et115 : ETy := ⟨7, 104⟩
theorem el115 : elemB Try.prog 115 et115 = true := by kernel_rfl
theorem z115 : zeroCells Try.prog 115 = some [.int .i64 0, str [], .int .i64 0, .int .u64 0, str [], .slice none 0 0, .slice none 0 0] := by kernel_rfl
theorem ty116 : tySz Try.prog 116 = some (true, 7, 104) := by kernel_rfl
theorem us116 : (Try.prog.underlying 116).isSome = true := by kernel_rfl
theorem pl116 : placesOf Try.prog 116 = some [(0, 1), (1, 6)] := by kernel_rfl
theorem fo116_0 : fieldOff Try.prog 116 0 = some 0 := by kernel_rfl
theorem fo116_1 : fieldOff Try.prog 116 1 = some 1 := by kernel_rfl
abbrev et116 : ETy := ⟨7, 104⟩
theorem el116 : elemB Try.prog 116 et116 = true := by kernel_rfl
theorem z116 : zeroCells Try.prog 116 = some [.int .i64 0, str [], .int .i64 0, .int .u64 0, str [], .slice none 0 0, .slice none 0 0] := by kernel_rfl
theorem ty117 : tySz Try.prog 117 = some (false, 1, 8) := by kernel_rfl
theorem us117 : (Try.prog.underlying 117).isSome = true := by kernel_rfl
abbrev et117 : ETy := ⟨1, 8⟩
theorem el117 : elemB Try.prog 117 et117 = true := by kernel_rfl
theorem z117 : zeroCells Try.prog 117 = some [.nilFunc] := by kernel_rfl
theorem ty118 : tySz Try.prog 118 = some (false, 1, 8) := by kernel_rfl
theorem us118 : (Try.prog.underlying 118).isSome = true := by kernel_rfl
abbrev et118 : ETy := ⟨1, 8⟩
theorem el118 : elemB Try.prog 118 et118 = true := by kernel_rfl
theorem z118 : zeroCells Try.prog 118 = some [.nilFunc] := by kernel_rfl
theorem ty119 : tySz Try.prog 119 = some (false, 1, 8) := by kernel_rfl
theorem us119 : (Try.prog.underlying 119).isSome = true := by kernel_rfl
abbrev et119 : ETy := ⟨1, 8⟩
theorem el119 : elemB Try.prog 119 et119 = true := by kernel_rfl
theorem z119 : zeroCells Try.prog 119 = some [.nilFunc] := by kernel_rfl
theorem ty120 : tySz Try.prog 120 = some (false, 1, 8) := by kernel_rfl
theorem us120 : (Try.prog.underlying 120).isSome = true := by kernel_rfl
abbrev et120 : ETy := ⟨1, 8⟩
theorem el120 : elemB Try.prog 120 et120 = true := by kernel_rfl
theorem z120 : zeroCells Try.prog 120 = some [.nilFunc] := by kernel_rfl
theorem ty121 : tySz Try.prog 121 = some (false, 1, 24) := by kernel_rfl
theorem us121 : (Try.prog.underlying 121).isSome = true := by kernel_rfl
theorem sl121 : Try.prog.underlying 121 = some (.slice 5) := by kernel_rfl
abbrev et121 : ETy := ⟨1, 24⟩
theorem el121 : elemB Try.prog 121 et121 = true := by kernel_rfl
theorem z121 : zeroCells Try.prog 121 = some [.slice none 0 0] := by kernel_rfl
theorem ty122 : tySz Try.prog 122 = some (false, 1, 0) := by kernel_rfl
theorem us122 : (Try.prog.underlying 122).isSome = true := by kernel_rfl
theorem ty123 : tySz Try.prog 123 = some (false, 1, 8) := by kernel_rfl
theorem us123 : (Try.prog.underlying 123).isSome = true := by kernel_rfl
abbrev et123 : ETy := ⟨1, 8⟩
theorem el123 : elemB Try.prog 123 et123 = true := by kernel_rfl
theorem z123 : zeroCells Try.prog 123 = some [.nilFunc] := by kernel_rfl
theorem ty124 : tySz Try.prog 124 = some (false, 1, 8) := by kernel_rfl
theorem us124 : (Try.prog.underlying 124).isSome = true := by kernel_rfl
abbrev et124 : ETy := ⟨1, 8⟩
theorem el124 : elemB Try.prog 124 et124 = true := by kernel_rfl
theorem z124 : zeroCells Try.prog 124 = some [.nilFunc] := by kernel_rfl
theorem ty125 : tySz Try.prog 125 = some (false, 1, 0) := by kernel_rfl
theorem us125 : (Try.prog.underlying 125).isSome = true := by kernel_rfl
theorem ty126 : tySz Try.prog 126 = some (true, 2, 16) := by kernel_rfl
theorem us126 : (Try.prog.underlying 126).isSome = true := by kernel_rfl
theorem pl126 : placesOf Try.prog 126 = some [(0, 1), (1, 1)] := by kernel_rfl
theorem fo126_0 : fieldOff Try.prog 126 0 = some 0 := by kernel_rfl
theorem fo126_1 : fieldOff Try.prog 126 1 = some 1 := by kernel_rfl
abbrev et126 : ETy := ⟨2, 16⟩
theorem el126 : elemB Try.prog 126 et126 = true := by kernel_rfl
theorem z126 : zeroCells Try.prog 126 = some [.int .i64 0, .int .i64 0] := by kernel_rfl
theorem ty127 : tySz Try.prog 127 = some (true, 2, 16) := by kernel_rfl
theorem us127 : (Try.prog.underlying 127).isSome = true := by kernel_rfl
theorem pl127 : placesOf Try.prog 127 = some [(0, 1), (1, 1)] := by kernel_rfl
theorem fo127_0 : fieldOff Try.prog 127 0 = some 0 := by kernel_rfl
theorem fo127_1 : fieldOff Try.prog 127 1 = some 1 := by kernel_rfl
abbrev et127 : ETy := ⟨2, 16⟩
theorem el127 : elemB Try.prog 127 et127 = true := by kernel_rfl
theorem z127 : zeroCells Try.prog 127 = some [.int .i64 0, .int .i64 0] := by kernel_rfl
theorem ty128 : tySz Try.prog 128 = some (false, 1, 8) := by kernel_rfl
theorem us128 : (Try.prog.underlying 128).isSome = true := by kernel_rfl
abbrev et128 : ETy := ⟨1, 8⟩
theorem el128 : elemB Try.prog 128 et128 = true := by kernel_rfl
theorem z128 : zeroCells Try.prog 128 = some [.nilFunc] := by kernel_rfl
theorem ty129 : tySz Try.prog 129 = some (false, 1, 8) := by kernel_rfl
theorem us129 : (Try.prog.underlying 129).isSome = true := by kernel_rfl
abbrev et129 : ETy := ⟨1, 8⟩
theorem el129 : elemB Try.prog 129 et129 = true := by kernel_rfl
theorem z129 : zeroCells Try.prog 129 = some [.nilFunc] := by kernel_rfl
theorem ty130 : tySz Try.prog 130 = some (false, 1, 8) := by kernel_rfl
theorem us130 : (Try.prog.underlying 130).isSome = true := by kernel_rfl
abbrev et130 : ETy := ⟨1, 8⟩
theorem el130 : elemB Try.prog 130 et130 = true := by kernel_rfl
theorem z130 : zeroCells Try.prog 130 = some [.nilFunc] := by kernel_rfl
theorem ty131 : tySz Try.prog 131 = some (false, 1, 8) := by kernel_rfl
theorem us131 : (Try.prog.underlying 131).isSome = true := by kernel_rfl
abbrev et131 : ETy := ⟨1, 8⟩
theorem el131 : elemB Try.prog 131 et131 = true := by kernel_rfl
theorem z131 : zeroCells Try.prog 131 = some [.nilFunc] := by kernel_rfl
theorem ty132 : tySz Try.prog 132 = some (false, 1, 8) := by kernel_rfl
theorem us132 : (Try.prog.underlying 132).isSome = true := by kernel_rfl
abbrev et132 : ETy := ⟨1, 8⟩
theorem el132 : elemB Try.prog 132 et132 = true := by kernel_rfl
theorem z132 : zeroCells Try.prog 132 = some [.nilFunc] := by kernel_rfl
theorem ty133 : tySz Try.prog 133 = some (true, 10, 160) := by kernel_rfl
theorem us133 : (Try.prog.underlying 133).isSome = true := by kernel_rfl
abbrev et133 : ETy := ⟨10, 160⟩
theorem el133 : elemB Try.prog 133 et133 = true := by kernel_rfl
theorem z133 : zeroCells Try.prog 133 = some [.int .i64 0, .int .u64 0, str [], .slice none 0 0, .slice none 0 0, .int .i64 0, .int .u64 0, str [], .slice none 0 0, .slice none 0 0] := by kernel_rfl
theorem ty134 : tySz Try.prog 134 = some (false, 1, 8) := by kernel_rfl
theorem us134 : (Try.prog.underlying 134).isSome = true := by kernel_rfl
abbrev et134 : ETy := ⟨1, 8⟩
theorem el134 : elemB Try.prog 134 et134 = true := by kernel_rfl
theorem z134 : zeroCells Try.prog 134 = some [.pointer none] := by kernel_rfl
theorem ty135 : tySz Try.prog 135 = some (false, 1, 8) := by kernel_rfl
theorem us135 : (Try.prog.underlying 135).isSome = true := by kernel_rfl
abbrev et135 : ETy := ⟨1, 8⟩
theorem el135 : elemB Try.prog 135 et135 = true := by kernel_rfl
theorem z135 : zeroCells Try.prog 135 = some [.nilFunc] := by kernel_rfl
theorem ty136 : tySz Try.prog 136 = some (false, 1, 8) := by kernel_rfl
theorem us136 : (Try.prog.underlying 136).isSome = true := by kernel_rfl
abbrev et136 : ETy := ⟨1, 8⟩
theorem el136 : elemB Try.prog 136 et136 = true := by kernel_rfl
theorem z136 : zeroCells Try.prog 136 = some [.nilFunc] := by kernel_rfl
theorem ty137 : tySz Try.prog 137 = some (false, 1, 8) := by kernel_rfl
theorem us137 : (Try.prog.underlying 137).isSome = true := by kernel_rfl
abbrev et137 : ETy := ⟨1, 8⟩
theorem el137 : elemB Try.prog 137 et137 = true := by kernel_rfl
theorem z137 : zeroCells Try.prog 137 = some [.nilFunc] := by kernel_rfl
theorem ty138 : tySz Try.prog 138 = some (false, 1, 8) := by kernel_rfl
theorem us138 : (Try.prog.underlying 138).isSome = true := by kernel_rfl
abbrev et138 : ETy := ⟨1, 8⟩
theorem el138 : elemB Try.prog 138 et138 = true := by kernel_rfl
theorem z138 : zeroCells Try.prog 138 = some [.nilFunc] := by kernel_rfl
theorem ty139 : tySz Try.prog 139 = some (false, 1, 0) := by kernel_rfl
theorem us139 : (Try.prog.underlying 139).isSome = true := by kernel_rfl
theorem ty140 : tySz Try.prog 140 = some (false, 1, 8) := by kernel_rfl
theorem us140 : (Try.prog.underlying 140).isSome = true := by kernel_rfl
abbrev et140 : ETy := ⟨1, 8⟩
theorem el140 : elemB Try.prog 140 et140 = true := by kernel_rfl
theorem z140 : zeroCells Try.prog 140 = some [.nilFunc] := by kernel_rfl
theorem ty141 : tySz Try.prog 141 = some (false, 1, 8) := by kernel_rfl
theorem us141 : (Try.prog.underlying 141).isSome = true := by kernel_rfl
abbrev et141 : ETy := ⟨1, 8⟩
theorem el141 : elemB Try.prog 141 et141 = true := by kernel_rfl
theorem z141 : zeroCells Try.prog 141 = some [.nilFunc] := by kernel_rfl
theorem ty142 : tySz Try.prog 142 = some (false, 1, 8) := by kernel_rfl
theorem us142 : (Try.prog.underlying 142).isSome = true := by kernel_rfl
abbrev et142 : ETy := ⟨1, 8⟩
theorem el142 : elemB Try.prog 142 et142 = true := by kernel_rfl
theorem z142 : zeroCells Try.prog 142 = some [.nilFunc] := by kernel_rfl
theorem ty143 : tySz Try.prog 143 = some (false, 1, 8) := by kernel_rfl
theorem us143 : (Try.prog.underlying 143).isSome = true := by kernel_rfl
abbrev et143 : ETy := ⟨1, 8⟩
theorem el143 : elemB Try.prog 143 et143 = true := by kernel_rfl
theorem z143 : zeroCells Try.prog 143 = some [.nilFunc] := by kernel_rfl
theorem ty144 : tySz Try.prog 144 = some (false, 1, 8) := by kernel_rfl
theorem us144 : (Try.prog.underlying 144).isSome = true := by kernel_rfl
abbrev et144 : ETy := ⟨1, 8⟩
theorem el144 : elemB Try.prog 144 et144 = true := by kernel_rfl
theorem z144 : zeroCells Try.prog 144 = some [.nilFunc] := by kernel_rfl
theorem ty145 : tySz Try.prog 145 = some (false, 1, 8) := by kernel_rfl
theorem us145 : (Try.prog.underlying 145).isSome = true := by kernel_rfl
abbrev et145 : ETy := ⟨1, 8⟩
theorem el145 : elemB Try.prog 145 et145 = true := by kernel_rfl
theorem z145 : zeroCells Try.prog 145 = some [.nilFunc] := by kernel_rfl
theorem ty146 : tySz Try.prog 146 = some (false, 1, 8) := by kernel_rfl
theorem us146 : (Try.prog.underlying 146).isSome = true := by kernel_rfl
abbrev et146 : ETy := ⟨1, 8⟩
theorem el146 : elemB Try.prog 146 et146 = true := by kernel_rfl
theorem z146 : zeroCells Try.prog 146 = some [.nilFunc] := by kernel_rfl
theorem ty147 : tySz Try.prog 147 = some (false, 1, 8) := by kernel_rfl
theorem us147 : (Try.prog.underlying 147).isSome = true := by kernel_rfl
abbrev et147 : ETy := ⟨1, 8⟩
theorem el147 : elemB Try.prog 147 et147 = true := by kernel_rfl
theorem z147 : zeroCells Try.prog 147 = some [.nilFunc] := by kernel_rfl
theorem ty148 : tySz Try.prog 148 = some (false, 1, 8) := by kernel_rfl
theorem us148 : (Try.prog.underlying 148).isSome = true := by kernel_rfl
abbrev et148 : ETy := ⟨1, 8⟩
theorem el148 : elemB Try.prog 148 et148 = true := by kernel_rfl
theorem z148 : zeroCells Try.prog 148 = some [.nilFunc] := by kernel_rfl
theorem ty149 : tySz Try.prog 149 = some (false, 1, 0) := by kernel_rfl
theorem us149 : (Try.prog.underlying 149).isSome = true := by kernel_rfl
theorem ty150 : tySz Try.prog 150 = some (false, 1, 8) := by kernel_rfl
theorem us150 : (Try.prog.underlying 150).isSome = true := by kernel_rfl
abbrev et150 : ETy := ⟨1, 8⟩
theorem el150 : elemB Try.prog 150 et150 = true := by kernel_rfl
theorem z150 : zeroCells Try.prog 150 = some [.nilFunc] := by kernel_rfl
theorem ty151 : tySz Try.prog 151 = some (false, 1, 8) := by kernel_rfl
theorem us151 : (Try.prog.underlying 151).isSome = true := by kernel_rfl
abbrev et151 : ETy := ⟨1, 8⟩
theorem el151 : elemB Try.prog 151 et151 = true := by kernel_rfl
theorem z151 : zeroCells Try.prog 151 = some [.nilFunc] := by kernel_rfl
theorem ty152 : tySz Try.prog 152 = some (false, 1, 8) := by kernel_rfl
theorem us152 : (Try.prog.underlying 152).isSome = true := by kernel_rfl
abbrev et152 : ETy := ⟨1, 8⟩
theorem el152 : elemB Try.prog 152 et152 = true := by kernel_rfl
theorem z152 : zeroCells Try.prog 152 = some [.nilFunc] := by kernel_rfl
theorem ty153 : tySz Try.prog 153 = some (false, 1, 8) := by kernel_rfl
theorem us153 : (Try.prog.underlying 153).isSome = true := by kernel_rfl
abbrev et153 : ETy := ⟨1, 8⟩
theorem el153 : elemB Try.prog 153 et153 = true := by kernel_rfl
theorem z153 : zeroCells Try.prog 153 = some [.nilFunc] := by kernel_rfl
theorem ty154 : tySz Try.prog 154 = some (false, 1, 8) := by kernel_rfl
theorem us154 : (Try.prog.underlying 154).isSome = true := by kernel_rfl
abbrev et154 : ETy := ⟨1, 8⟩
theorem el154 : elemB Try.prog 154 et154 = true := by kernel_rfl
theorem z154 : zeroCells Try.prog 154 = some [.nilFunc] := by kernel_rfl
theorem ty155 : tySz Try.prog 155 = some (false, 1, 8) := by kernel_rfl
theorem us155 : (Try.prog.underlying 155).isSome = true := by kernel_rfl
abbrev et155 : ETy := ⟨1, 8⟩
theorem el155 : elemB Try.prog 155 et155 = true := by kernel_rfl
theorem z155 : zeroCells Try.prog 155 = some [.pointer none] := by kernel_rfl
theorem ty156 : tySz Try.prog 156 = some (false, 1, 8) := by kernel_rfl
theorem us156 : (Try.prog.underlying 156).isSome = true := by kernel_rfl
abbrev et156 : ETy := ⟨1, 8⟩
theorem el156 : elemB Try.prog 156 et156 = true := by kernel_rfl
theorem z156 : zeroCells Try.prog 156 = some [.nilFunc] := by kernel_rfl
theorem ty157 : tySz Try.prog 157 = some (false, 1, 8) := by kernel_rfl
theorem us157 : (Try.prog.underlying 157).isSome = true := by kernel_rfl
abbrev et157 : ETy := ⟨1, 8⟩
theorem el157 : elemB Try.prog 157 et157 = true := by kernel_rfl
theorem z157 : zeroCells Try.prog 157 = some [.nilFunc] := by kernel_rfl
theorem ty158 : tySz Try.prog 158 = some (false, 1, 8) := by kernel_rfl
theorem us158 : (Try.prog.underlying 158).isSome = true := by kernel_rfl
abbrev et158 : ETy := ⟨1, 8⟩
theorem el158 : elemB Try.prog 158 et158 = true := by kernel_rfl
theorem z158 : zeroCells Try.prog 158 = some [.nilFunc] := by kernel_rfl
theorem ty159 : tySz Try.prog 159 = some (false, 1, 8) := by kernel_rfl
theorem us159 : (Try.prog.underlying 159).isSome = true := by kernel_rfl
abbrev et159 : ETy := ⟨1, 8⟩
theorem el159 : elemB Try.prog 159 et159 = true := by kernel_rfl
theorem z159 : zeroCells Try.prog 159 = some [.nilFunc] := by kernel_rfl
theorem ty160 : tySz Try.prog 160 = some (false, 1, 8) := by kernel_rfl
theorem us160 : (Try.prog.underlying 160).isSome = true := by kernel_rfl
abbrev et160 : ETy := ⟨1, 8⟩
theorem el160 : elemB Try.prog 160 et160 = true := by kernel_rfl
theorem z160 : zeroCells Try.prog 160 = some [.nilFunc] := by kernel_rfl
theorem ty161 : tySz Try.prog 161 = some (false, 1, 8) := by kernel_rfl
theorem us161 : (Try.prog.underlying 161).isSome = true := by kernel_rfl
abbrev et161 : ETy := ⟨1, 8⟩
theorem el161 : elemB Try.prog 161 et161 = true := by kernel_rfl
theorem z161 : zeroCells Try.prog 161 = some [.nilFunc] := by kernel_rfl
theorem ty162 : tySz Try.prog 162 = some (false, 1, 8) := by kernel_rfl
theorem us162 : (Try.prog.underlying 162).isSome = true := by kernel_rfl
abbrev et162 : ETy := ⟨1, 8⟩
theorem el162 : elemB Try.prog 162 et162 = true := by kernel_rfl
theorem z162 : zeroCells Try.prog 162 = some [.nilFunc] := by kernel_rfl
theorem ty163 : tySz Try.prog 163 = some (false, 1, 8) := by kernel_rfl
theorem us163 : (Try.prog.underlying 163).isSome = true := by kernel_rfl
abbrev et163 : ETy := ⟨1, 8⟩
theorem el163 : elemB Try.prog 163 et163 = true := by kernel_rfl
theorem z163 : zeroCells Try.prog 163 = some [.nilFunc] := by kernel_rfl
theorem ty164 : tySz Try.prog 164 = some (false, 1, 8) := by kernel_rfl
theorem us164 : (Try.prog.underlying 164).isSome = true := by kernel_rfl
abbrev et164 : ETy := ⟨1, 8⟩
theorem el164 : elemB Try.prog 164 et164 = true := by kernel_rfl
theorem z164 : zeroCells Try.prog 164 = some [.nilFunc] := by kernel_rfl
theorem ty165 : tySz Try.prog 165 = some (false, 1, 8) := by kernel_rfl
theorem us165 : (Try.prog.underlying 165).isSome = true := by kernel_rfl
abbrev et165 : ETy := ⟨1, 8⟩
theorem el165 : elemB Try.prog 165 et165 = true := by kernel_rfl
theorem z165 : zeroCells Try.prog 165 = some [.nilFunc] := by kernel_rfl
theorem ty166 : tySz Try.prog 166 = some (false, 1, 8) := by kernel_rfl
theorem us166 : (Try.prog.underlying 166).isSome = true := by kernel_rfl
abbrev et166 : ETy := ⟨1, 8⟩
theorem el166 : elemB Try.prog 166 et166 = true := by kernel_rfl
theorem z166 : zeroCells Try.prog 166 = some [.nilFunc] := by kernel_rfl
theorem ty167 : tySz Try.prog 167 = some (false, 1, 8) := by kernel_rfl
theorem us167 : (Try.prog.underlying 167).isSome = true := by kernel_rfl
abbrev et167 : ETy := ⟨1, 8⟩
theorem el167 : elemB Try.prog 167 et167 = true := by kernel_rfl
theorem z167 : zeroCells Try.prog 167 = some [.nilFunc] := by kernel_rfl
theorem ty168 : tySz Try.prog 168 = some (false, 1, 8) := by kernel_rfl
theorem us168 : (Try.prog.underlying 168).isSome = true := by kernel_rfl
abbrev et168 : ETy := ⟨1, 8⟩
theorem el168 : elemB Try.prog 168 et168 = true := by kernel_rfl
theorem z168 : zeroCells Try.prog 168 = some [.nilFunc] := by kernel_rfl
theorem ty169 : tySz Try.prog 169 = some (false, 1, 8) := by kernel_rfl
theorem us169 : (Try.prog.underlying 169).isSome = true := by kernel_rfl
abbrev et169 : ETy := ⟨1, 8⟩
theorem el169 : elemB Try.prog 169 et169 = true := by kernel_rfl
theorem z169 : zeroCells Try.prog 169 = some [.nilFunc] := by kernel_rfl
theorem ty170 : tySz Try.prog 170 = some (false, 1, 8) := by kernel_rfl
theorem us170 : (Try.prog.underlying 170).isSome = true := by kernel_rfl
theorem iu170 : Try.prog.underlying 170 = some (.int .u64) := by kernel_rfl
abbrev et170 : ETy := ⟨1, 8⟩
theorem el170 : elemB Try.prog 170 et170 = true := by kernel_rfl
theorem z170 : zeroCells Try.prog 170 = some [.int .u64 0] := by kernel_rfl
theorem ty171 : tySz Try.prog 171 = some (false, 1, 8) := by kernel_rfl
theorem us171 : (Try.prog.underlying 171).isSome = true := by kernel_rfl
abbrev et171 : ETy := ⟨1, 8⟩
theorem el171 : elemB Try.prog 171 et171 = true := by kernel_rfl
theorem z171 : zeroCells Try.prog 171 = some [.nilFunc] := by kernel_rfl
theorem ty172 : tySz Try.prog 172 = some (false, 1, 8) := by kernel_rfl
theorem us172 : (Try.prog.underlying 172).isSome = true := by kernel_rfl
abbrev et172 : ETy := ⟨1, 8⟩
theorem el172 : elemB Try.prog 172 et172 = true := by kernel_rfl
theorem z172 : zeroCells Try.prog 172 = some [.nilFunc] := by kernel_rfl
theorem ty173 : tySz Try.prog 173 = some (false, 1, 8) := by kernel_rfl
theorem us173 : (Try.prog.underlying 173).isSome = true := by kernel_rfl
abbrev et173 : ETy := ⟨1, 8⟩
theorem el173 : elemB Try.prog 173 et173 = true := by kernel_rfl
theorem z173 : zeroCells Try.prog 173 = some [.nilFunc] := by kernel_rfl
theorem ty174 : tySz Try.prog 174 = some (false, 1, 8) := by kernel_rfl
theorem us174 : (Try.prog.underlying 174).isSome = true := by kernel_rfl
abbrev et174 : ETy := ⟨1, 8⟩
theorem el174 : elemB Try.prog 174 et174 = true := by kernel_rfl
theorem z174 : zeroCells Try.prog 174 = some [.nilFunc] := by kernel_rfl
theorem ty175 : tySz Try.prog 175 = some (false, 1, 8) := by kernel_rfl
theorem us175 : (Try.prog.underlying 175).isSome = true := by kernel_rfl
abbrev et175 : ETy := ⟨1, 8⟩
theorem el175 : elemB Try.prog 175 et175 = true := by kernel_rfl
theorem z175 : zeroCells Try.prog 175 = some [.nilFunc] := by kernel_rfl
theorem ty176 : tySz Try.prog 176 = some (false, 1, 8) := by kernel_rfl
theorem us176 : (Try.prog.underlying 176).isSome = true := by kernel_rfl
theorem fl176 : Try.prog.underlying 176 = some (.float .f64) := by kernel_rfl
abbrev et176 : ETy := ⟨1, 8⟩
theorem el176 : elemB Try.prog 176 et176 = true := by kernel_rfl
theorem z176 : zeroCells Try.prog 176 = some [.float .f64 0] := by kernel_rfl
theorem ty177 : tySz Try.prog 177 = some (false, 1, 8) := by kernel_rfl
theorem us177 : (Try.prog.underlying 177).isSome = true := by kernel_rfl
abbrev et177 : ETy := ⟨1, 8⟩
theorem el177 : elemB Try.prog 177 et177 = true := by kernel_rfl
theorem z177 : zeroCells Try.prog 177 = some [.nilFunc] := by kernel_rfl
theorem ty178 : tySz Try.prog 178 = some (false, 1, 8) := by kernel_rfl
theorem us178 : (Try.prog.underlying 178).isSome = true := by kernel_rfl
abbrev et178 : ETy := ⟨1, 8⟩
theorem el178 : elemB Try.prog 178 et178 = true := by kernel_rfl
theorem z178 : zeroCells Try.prog 178 = some [.nilFunc] := by kernel_rfl
theorem ty179 : tySz Try.prog 179 = some (false, 1, 8) := by kernel_rfl
theorem us179 : (Try.prog.underlying 179).isSome = true := by kernel_rfl
abbrev et179 : ETy := ⟨1, 8⟩
theorem el179 : elemB Try.prog 179 et179 = true := by kernel_rfl
theorem z179 : zeroCells Try.prog 179 = some [.nilFunc] := by kernel_rfl
theorem ty180 : tySz Try.prog 180 = some (false, 1, 8) := by kernel_rfl
theorem us180 : (Try.prog.underlying 180).isSome = true := by kernel_rfl
abbrev et180 : ETy := ⟨1, 8⟩
theorem el180 : elemB Try.prog 180 et180 = true := by kernel_rfl
theorem z180 : zeroCells Try.prog 180 = some [.nilFunc] := by kernel_rfl
theorem ty181 : tySz Try.prog 181 = some (false, 1, 8) := by kernel_rfl
theorem us181 : (Try.prog.underlying 181).isSome = true := by kernel_rfl
abbrev et181 : ETy := ⟨1, 8⟩
theorem el181 : elemB Try.prog 181 et181 = true := by kernel_rfl
theorem z181 : zeroCells Try.prog 181 = some [.nilFunc] := by kernel_rfl
theorem ty182 : tySz Try.prog 182 = some (false, 1, 8) := by kernel_rfl
theorem us182 : (Try.prog.underlying 182).isSome = true := by kernel_rfl
abbrev et182 : ETy := ⟨1, 8⟩
theorem el182 : elemB Try.prog 182 et182 = true := by kernel_rfl
theorem z182 : zeroCells Try.prog 182 = some [.nilFunc] := by kernel_rfl
theorem ty183 : tySz Try.prog 183 = some (false, 1, 8) := by kernel_rfl
theorem us183 : (Try.prog.underlying 183).isSome = true := by kernel_rfl
abbrev et183 : ETy := ⟨1, 8⟩
theorem el183 : elemB Try.prog 183 et183 = true := by kernel_rfl
theorem z183 : zeroCells Try.prog 183 = some [.nilFunc] := by kernel_rfl
theorem ty184 : tySz Try.prog 184 = some (true, 4, 40) := by kernel_rfl
theorem us184 : (Try.prog.underlying 184).isSome = true := by kernel_rfl
theorem pl184 : placesOf Try.prog 184 = some [(0, 1), (1, 1), (2, 1), (3, 1)] := by kernel_rfl
theorem fo184_0 : fieldOff Try.prog 184 0 = some 0 := by kernel_rfl
theorem fo184_1 : fieldOff Try.prog 184 1 = some 1 := by kernel_rfl
theorem fo184_2 : fieldOff Try.prog 184 2 = some 2 := by kernel_rfl
theorem fo184_3 : fieldOff Try.prog 184 3 = some 3 := by kernel_rfl
abbrev et184 : ETy := ⟨4, 40⟩
theorem el184 : elemB Try.prog 184 et184 = true := by kernel_rfl
theorem z184 : zeroCells Try.prog 184 = some [.pointer none, .pointer none, .pointer none, str []] := by kernel_rfl
theorem ty185 : tySz Try.prog 185 = some (true, 4, 40) := by kernel_rfl
theorem us185 : (Try.prog.underlying 185).isSome = true := by kernel_rfl
theorem pl185 : placesOf Try.prog 185 = some [(0, 1), (1, 1), (2, 1), (3, 1)] := by kernel_rfl
theorem fo185_0 : fieldOff Try.prog 185 0 = some 0 := by kernel_rfl
theorem fo185_1 : fieldOff Try.prog 185 1 = some 1 := by kernel_rfl
theorem fo185_2 : fieldOff Try.prog 185 2 = some 2 := by kernel_rfl
theorem fo185_3 : fieldOff Try.prog 185 3 = some 3 := by kernel_rfl
abbrev et185 : ETy := ⟨4, 40⟩
theorem el185 : elemB Try.prog 185 et185 = true := by kernel_rfl
theorem z185 : zeroCells Try.prog 185 = some [.pointer none, .pointer none, .pointer none, str []] := by kernel_rfl
theorem ty186 : tySz Try.prog 186 = some (true, 0, 0) := by kernel_rfl
theorem us186 : (Try.prog.underlying 186).isSome = true := by kernel_rfl
abbrev et186 : ETy := ⟨0, 0⟩
theorem el186 : elemB Try.prog 186 et186 = true := by kernel_rfl
theorem z186 : zeroCells Try.prog 186 = some [] := by kernel_rfl
theorem ty187 : tySz Try.prog 187 = some (true, 0, 0) := by kernel_rfl
theorem us187 : (Try.prog.underlying 187).isSome = true := by kernel_rfl
theorem pl187 : placesOf Try.prog 187 = some [(0, 0)] := by kernel_rfl
abbrev et187 : ETy := ⟨0, 0⟩
theorem el187 : elemB Try.prog 187 et187 = true := by kernel_rfl
theorem z187 : zeroCells Try.prog 187 = some [] := by kernel_rfl
theorem ty188 : tySz Try.prog 188 = some (true, 0, 0) := by kernel_rfl
theorem us188 : (Try.prog.underlying 188).isSome = true := by kernel_rfl
theorem pl188 : placesOf Try.prog 188 = some [(0, 0)] := by kernel_rfl
abbrev et188 : ETy := ⟨0, 0⟩
theorem el188 : elemB Try.prog 188 et188 = true := by kernel_rfl
theorem z188 : zeroCells Try.prog 188 = some [] := by kernel_rfl
theorem ty189 : tySz Try.prog 189 = some (false, 1, 8) := by kernel_rfl
theorem us189 : (Try.prog.underlying 189).isSome = true := by kernel_rfl
abbrev et189 : ETy := ⟨1, 8⟩
theorem el189 : elemB Try.prog 189 et189 = true := by kernel_rfl
theorem z189 : zeroCells Try.prog 189 = some [.nilFunc] := by kernel_rfl
theorem ty190 : tySz Try.prog 190 = some (false, 1, 4) := by kernel_rfl
theorem us190 : (Try.prog.underlying 190).isSome = true := by kernel_rfl
theorem iu190 : Try.prog.underlying 190 = some (.int .u32) := by kernel_rfl
abbrev et190 : ETy := ⟨1, 4⟩
theorem el190 : elemB Try.prog 190 et190 = true := by kernel_rfl
theorem z190 : zeroCells Try.prog 190 = some [.int .u32 0] := by kernel_rfl
theorem ty191 : tySz Try.prog 191 = some (false, 1, 1) := by kernel_rfl
theorem us191 : (Try.prog.underlying 191).isSome = true := by kernel_rfl
theorem iu191 : Try.prog.underlying 191 = some (.int .u8) := by kernel_rfl
abbrev et191 : ETy := ⟨1, 1⟩
theorem el191 : elemB Try.prog 191 et191 = true := by kernel_rfl
theorem z191 : zeroCells Try.prog 191 = some [.int .u8 0] := by kernel_rfl
theorem ty192 : tySz Try.prog 192 = some (false, 1, 1) := by kernel_rfl
theorem us192 : (Try.prog.underlying 192).isSome = true := by kernel_rfl
theorem iu192 : Try.prog.underlying 192 = some (.int .u8) := by kernel_rfl
abbrev et192 : ETy := ⟨1, 1⟩
theorem el192 : elemB Try.prog 192 et192 = true := by kernel_rfl
theorem z192 : zeroCells Try.prog 192 = some [.int .u8 0] := by kernel_rfl
theorem ty193 : tySz Try.prog 193 = some (false, 1, 8) := by kernel_rfl
theorem us193 : (Try.prog.underlying 193).isSome = true := by kernel_rfl
abbrev et193 : ETy := ⟨1, 8⟩
theorem el193 : elemB Try.prog 193 et193 = true := by kernel_rfl
theorem z193 : zeroCells Try.prog 193 = some [.nilFunc] := by kernel_rfl
theorem ty194 : tySz Try.prog 194 = some (false, 1, 8) := by kernel_rfl
theorem us194 : (Try.prog.underlying 194).isSome = true := by kernel_rfl
abbrev et194 : ETy := ⟨1, 8⟩
theorem el194 : elemB Try.prog 194 et194 = true := by kernel_rfl
theorem z194 : zeroCells Try.prog 194 = some [.pointer none] := by kernel_rfl
theorem ty195 : tySz Try.prog 195 = some (false, 1, 4) := by kernel_rfl
theorem us195 : (Try.prog.underlying 195).isSome = true := by kernel_rfl
theorem iu195 : Try.prog.underlying 195 = some (.int .i32) := by kernel_rfl
abbrev et195 : ETy := ⟨1, 4⟩
theorem el195 : elemB Try.prog 195 et195 = true := by kernel_rfl
theorem z195 : zeroCells Try.prog 195 = some [.int .i32 0] := by kernel_rfl
theorem ty196 : tySz Try.prog 196 = some (false, 1, 4) := by kernel_rfl
theorem us196 : (Try.prog.underlying 196).isSome = true := by kernel_rfl
theorem iu196 : Try.prog.underlying 196 = some (.int .i32) := by kernel_rfl
abbrev et196 : ETy := ⟨1, 4⟩
theorem el196 : elemB Try.prog 196 et196 = true := by kernel_rfl
theorem z196 : zeroCells Try.prog 196 = some [.int .i32 0] := by kernel_rfl
theorem ty197 : tySz Try.prog 197 = some (true, 11, 48) := by kernel_rfl
theorem us197 : (Try.prog.underlying 197).isSome = true := by kernel_rfl
theorem pl197 : placesOf Try.prog 197 = some [(0, 1), (1, 1), (2, 1), (3, 1), (4, 1), (5, 1), (6, 1), (7, 1), (8, 1), (9, 1), (10, 1)] := by kernel_rfl
theorem fo197_0 : fieldOff Try.prog 197 0 = some 0 := by kernel_rfl
theorem fo197_1 : fieldOff Try.prog 197 1 = some 1 := by kernel_rfl
theorem fo197_2 : fieldOff Try.prog 197 2 = some 2 := by kernel_rfl
theorem fo197_3 : fieldOff Try.prog 197 3 = some 3 := by kernel_rfl
theorem fo197_4 : fieldOff Try.prog 197 4 = some 4 := by kernel_rfl
theorem fo197_5 : fieldOff Try.prog 197 5 = some 5 := by kernel_rfl
theorem fo197_6 : fieldOff Try.prog 197 6 = some 6 := by kernel_rfl
theorem fo197_7 : fieldOff Try.prog 197 7 = some 7 := by kernel_rfl
theorem fo197_8 : fieldOff Try.prog 197 8 = some 8 := by kernel_rfl
theorem fo197_9 : fieldOff Try.prog 197 9 = some 9 := by kernel_rfl
theorem fo197_10 : fieldOff Try.prog 197 10 = some 10 := by kernel_rfl
abbrev et197 : ETy := ⟨11, 48⟩
theorem el197 : elemB Try.prog 197 et197 = true := by kernel_rfl
theorem z197 : zeroCells Try.prog 197 = some [.int .u64 0, .int .u64 0, .int .u32 0, .int .u8 0, .int .u8 0, .int .u8 0, .int .u8 0, .nilFunc, .pointer none, .int .i32 0, .int .i32 0] := by kernel_rfl
theorem ty198 : tySz Try.prog 198 = some (true, 11, 48) := by kernel_rfl
theorem us198 : (Try.prog.underlying 198).isSome = true := by kernel_rfl
theorem pl198 : placesOf Try.prog 198 = some [(0, 1), (1, 1), (2, 1), (3, 1), (4, 1), (5, 1), (6, 1), (7, 1), (8, 1), (9, 1), (10, 1)] := by kernel_rfl
theorem fo198_0 : fieldOff Try.prog 198 0 = some 0 := by kernel_rfl
theorem fo198_1 : fieldOff Try.prog 198 1 = some 1 := by kernel_rfl
theorem fo198_2 : fieldOff Try.prog 198 2 = some 2 := by kernel_rfl
theorem fo198_3 : fieldOff Try.prog 198 3 = some 3 := by kernel_rfl
theorem fo198_4 : fieldOff Try.prog 198 4 = some 4 := by kernel_rfl
theorem fo198_5 : fieldOff Try.prog 198 5 = some 5 := by kernel_rfl
theorem fo198_6 : fieldOff Try.prog 198 6 = some 6 := by kernel_rfl
theorem fo198_7 : fieldOff Try.prog 198 7 = some 7 := by kernel_rfl
theorem fo198_8 : fieldOff Try.prog 198 8 = some 8 := by kernel_rfl
theorem fo198_9 : fieldOff Try.prog 198 9 = some 9 := by kernel_rfl
theorem fo198_10 : fieldOff Try.prog 198 10 = some 10 := by kernel_rfl
abbrev et198 : ETy := ⟨11, 48⟩
theorem el198 : elemB Try.prog 198 et198 = true := by kernel_rfl
theorem z198 : zeroCells Try.prog 198 = some [.int .u64 0, .int .u64 0, .int .u32 0, .int .u8 0, .int .u8 0, .int .u8 0, .int .u8 0, .nilFunc, .pointer none, .int .i32 0, .int .i32 0] := by kernel_rfl
theorem ty199 : tySz Try.prog 199 = some (false, 1, 8) := by kernel_rfl
theorem us199 : (Try.prog.underlying 199).isSome = true := by kernel_rfl
theorem mixed : Try.prog.follows .mixedOrders = true := by kernel_rfl
theorem gofn2 : goFn Try.prog 2 = true := by kernel_rfl
theorem gofn3 : goFn Try.prog 3 = true := by kernel_rfl
theorem gofn4 : goFn Try.prog 4 = true := by kernel_rfl
theorem gofn5 : goFn Try.prog 5 = true := by kernel_rfl
theorem gofn6 : goFn Try.prog 6 = true := by kernel_rfl
theorem gofn7 : goFn Try.prog 7 = true := by kernel_rfl
theorem gofn8 : goFn Try.prog 8 = true := by kernel_rfl
theorem gofn9 : goFn Try.prog 9 = true := by kernel_rfl
theorem gofn10 : goFn Try.prog 10 = true := by kernel_rfl
theorem gofn11 : goFn Try.prog 11 = true := by kernel_rfl
theorem gofn12 : goFn Try.prog 12 = true := by kernel_rfl
theorem gofn13 : goFn Try.prog 13 = true := by kernel_rfl
theorem gofn14 : goFn Try.prog 14 = true := by kernel_rfl
theorem gofn15 : goFn Try.prog 15 = true := by kernel_rfl
theorem gofn16 : goFn Try.prog 16 = true := by kernel_rfl
theorem gofn17 : goFn Try.prog 17 = true := by kernel_rfl
theorem gofn18 : goFn Try.prog 18 = true := by kernel_rfl
theorem gofn19 : goFn Try.prog 19 = true := by kernel_rfl
theorem gofn20 : goFn Try.prog 20 = true := by kernel_rfl
theorem gofn21 : goFn Try.prog 21 = true := by kernel_rfl
theorem gofn22 : goFn Try.prog 22 = true := by kernel_rfl
theorem gofn23 : goFn Try.prog 23 = true := by kernel_rfl
theorem gofn24 : goFn Try.prog 24 = true := by kernel_rfl
theorem gofn25 : goFn Try.prog 25 = true := by kernel_rfl
theorem gofn26 : goFn Try.prog 26 = true := by kernel_rfl
theorem gofn27 : goFn Try.prog 27 = true := by kernel_rfl
theorem gofn28 : goFn Try.prog 28 = true := by kernel_rfl
theorem gofn29 : goFn Try.prog 29 = true := by kernel_rfl
theorem gofn30 : goFn Try.prog 30 = true := by kernel_rfl
theorem gofn31 : goFn Try.prog 31 = true := by kernel_rfl
theorem gofn32 : goFn Try.prog 32 = true := by kernel_rfl
theorem gofn33 : goFn Try.prog 33 = true := by kernel_rfl
theorem gofn34 : goFn Try.prog 34 = true := by kernel_rfl
theorem gofn35 : goFn Try.prog 35 = true := by kernel_rfl
theorem gofn36 : goFn Try.prog 36 = true := by kernel_rfl
theorem gofn37 : goFn Try.prog 37 = true := by kernel_rfl
theorem gofn38 : goFn Try.prog 38 = true := by kernel_rfl
theorem gofn39 : goFn Try.prog 39 = true := by kernel_rfl
theorem gofn40 : goFn Try.prog 40 = true := by kernel_rfl
theorem gofn41 : goFn Try.prog 41 = true := by kernel_rfl
theorem gofn42 : goFn Try.prog 42 = true := by kernel_rfl
theorem gofn43 : goFn Try.prog 43 = true := by kernel_rfl
theorem gofn44 : goFn Try.prog 44 = true := by kernel_rfl
theorem gofn45 : goFn Try.prog 45 = true := by kernel_rfl
theorem gofn46 : goFn Try.prog 46 = true := by kernel_rfl
theorem gofn47 : goFn Try.prog 47 = true := by kernel_rfl
theorem gofn48 : goFn Try.prog 48 = true := by kernel_rfl
theorem gofn49 : goFn Try.prog 49 = true := by kernel_rfl
theorem gofn50 : goFn Try.prog 50 = true := by kernel_rfl
theorem gofn51 : goFn Try.prog 51 = true := by kernel_rfl
theorem gofn52 : goFn Try.prog 52 = true := by kernel_rfl
theorem gofn53 : goFn Try.prog 53 = true := by kernel_rfl
theorem gofn54 : goFn Try.prog 54 = true := by kernel_rfl
theorem gofn55 : goFn Try.prog 55 = true := by kernel_rfl
theorem gofn56 : goFn Try.prog 56 = true := by kernel_rfl
theorem gofn57 : goFn Try.prog 57 = true := by kernel_rfl
theorem gofn58 : goFn Try.prog 58 = true := by kernel_rfl
theorem gofn59 : goFn Try.prog 59 = true := by kernel_rfl
theorem gofn60 : goFn Try.prog 60 = true := by kernel_rfl
theorem gofn61 : goFn Try.prog 61 = true := by kernel_rfl
theorem gofn62 : goFn Try.prog 62 = true := by kernel_rfl
theorem gofn63 : goFn Try.prog 63 = true := by kernel_rfl
theorem gofn64 : goFn Try.prog 64 = true := by kernel_rfl
theorem gofn65 : goFn Try.prog 65 = true := by kernel_rfl
theorem gofn66 : goFn Try.prog 66 = true := by kernel_rfl
theorem gofn67 : goFn Try.prog 67 = true := by kernel_rfl
theorem gofn68 : goFn Try.prog 68 = true := by kernel_rfl
theorem gofn69 : goFn Try.prog 69 = true := by kernel_rfl
theorem gofn70 : goFn Try.prog 70 = true := by kernel_rfl
theorem gofn71 : goFn Try.prog 71 = true := by kernel_rfl
theorem gofn72 : goFn Try.prog 72 = true := by kernel_rfl
theorem gofn73 : goFn Try.prog 73 = true := by kernel_rfl
theorem gofn74 : goFn Try.prog 74 = true := by kernel_rfl
theorem gofn75 : goFn Try.prog 75 = true := by kernel_rfl
theorem gofn76 : goFn Try.prog 76 = true := by kernel_rfl
theorem gofn77 : goFn Try.prog 77 = true := by kernel_rfl
theorem gofn78 : goFn Try.prog 78 = true := by kernel_rfl
theorem gofn79 : goFn Try.prog 79 = true := by kernel_rfl
theorem gofn80 : goFn Try.prog 80 = true := by kernel_rfl
theorem gofn81 : goFn Try.prog 81 = true := by kernel_rfl
theorem gofn82 : goFn Try.prog 82 = true := by kernel_rfl
theorem gofn83 : goFn Try.prog 83 = true := by kernel_rfl
theorem gofn84 : goFn Try.prog 84 = true := by kernel_rfl
theorem gofn85 : goFn Try.prog 85 = true := by kernel_rfl
theorem gofn86 : goFn Try.prog 86 = true := by kernel_rfl
theorem gofn87 : goFn Try.prog 87 = true := by kernel_rfl
theorem gofn88 : goFn Try.prog 88 = true := by kernel_rfl
theorem gofn89 : goFn Try.prog 89 = true := by kernel_rfl
theorem gofn90 : goFn Try.prog 90 = true := by kernel_rfl
theorem gofn91 : goFn Try.prog 91 = true := by kernel_rfl
theorem gofn92 : goFn Try.prog 92 = true := by kernel_rfl
theorem gofn93 : goFn Try.prog 93 = true := by kernel_rfl
theorem gofn94 : goFn Try.prog 94 = true := by kernel_rfl
theorem gofn95 : goFn Try.prog 95 = true := by kernel_rfl
theorem gofn96 : goFn Try.prog 96 = true := by kernel_rfl
theorem gofn97 : goFn Try.prog 97 = true := by kernel_rfl
theorem gofn98 : goFn Try.prog 98 = true := by kernel_rfl
theorem gofn99 : goFn Try.prog 99 = true := by kernel_rfl
theorem gofn100 : goFn Try.prog 100 = true := by kernel_rfl
theorem gofn101 : goFn Try.prog 101 = true := by kernel_rfl
theorem gofn102 : goFn Try.prog 102 = true := by kernel_rfl
theorem gofn103 : goFn Try.prog 103 = true := by kernel_rfl
theorem gofn104 : goFn Try.prog 104 = true := by kernel_rfl
theorem gofn105 : goFn Try.prog 105 = true := by kernel_rfl
theorem gofn106 : goFn Try.prog 106 = true := by kernel_rfl
theorem gofn107 : goFn Try.prog 107 = true := by kernel_rfl
theorem gofn108 : goFn Try.prog 108 = true := by kernel_rfl
theorem gofn109 : goFn Try.prog 109 = true := by kernel_rfl
theorem gofn110 : goFn Try.prog 110 = true := by kernel_rfl
theorem gofn111 : goFn Try.prog 111 = true := by kernel_rfl
theorem gofn112 : goFn Try.prog 112 = true := by kernel_rfl
theorem gofn113 : goFn Try.prog 113 = true := by kernel_rfl
theorem gofn114 : goFn Try.prog 114 = true := by kernel_rfl
theorem gofn115 : goFn Try.prog 115 = true := by kernel_rfl
theorem gofn116 : goFn Try.prog 116 = true := by kernel_rfl
theorem gofn117 : goFn Try.prog 117 = true := by kernel_rfl
theorem gofn118 : goFn Try.prog 118 = true := by kernel_rfl
theorem gofn119 : goFn Try.prog 119 = true := by kernel_rfl
theorem gofn120 : goFn Try.prog 120 = true := by kernel_rfl
theorem gofn121 : goFn Try.prog 121 = true := by kernel_rfl
theorem gofn122 : goFn Try.prog 122 = true := by kernel_rfl
theorem gofn123 : goFn Try.prog 123 = true := by kernel_rfl
theorem gofn124 : goFn Try.prog 124 = true := by kernel_rfl
theorem gofn125 : goFn Try.prog 125 = true := by kernel_rfl
theorem gofn126 : goFn Try.prog 126 = true := by kernel_rfl
theorem gofn127 : goFn Try.prog 127 = true := by kernel_rfl
theorem gofn128 : goFn Try.prog 128 = true := by kernel_rfl
theorem gofn129 : goFn Try.prog 129 = true := by kernel_rfl
theorem gofn130 : goFn Try.prog 130 = true := by kernel_rfl
theorem gofn131 : goFn Try.prog 131 = true := by kernel_rfl
theorem gofn132 : goFn Try.prog 132 = true := by kernel_rfl
theorem gofn133 : goFn Try.prog 133 = true := by kernel_rfl
theorem gofn135 : goFn Try.prog 135 = true := by kernel_rfl
theorem gofn137 : goFn Try.prog 137 = true := by kernel_rfl
theorem extFrom (b : Nat) (w : World) : (callFunc 138 #[.int .u64 (b : Int)]).run Try.prog w = .ok (.value (.float .f64 b)) w := by kernel_rfl
theorem gofn139 : goFn Try.prog 139 = true := by kernel_rfl
theorem gofn140 : goFn Try.prog 140 = true := by kernel_rfl
theorem gofn141 : goFn Try.prog 141 = true := by kernel_rfl
theorem gofn142 : goFn Try.prog 142 = true := by kernel_rfl
theorem gofn143 : goFn Try.prog 143 = true := by kernel_rfl
theorem gofn144 : goFn Try.prog 144 = true := by kernel_rfl
theorem gofn145 : goFn Try.prog 145 = true := by kernel_rfl
theorem gofn146 : goFn Try.prog 146 = true := by kernel_rfl
theorem extBits (b : Nat) (w : World) : (callFunc 147 #[.float .f64 b]).run Try.prog w = .ok (.value (.int .u64 b)) w := by kernel_rfl
theorem gofn148 : goFn Try.prog 148 = true := by kernel_rfl
theorem gofn149 : goFn Try.prog 149 = true := by kernel_rfl
end Go.Proofs.Ytkiankpmkglhcaa.J

/- What the inputs of these laws read as: values, events, queues. -/
namespace Go.Proofs.Ytkiankpmkglhcaa.J
open Go Go.RowKit
set_option linter.unusedVariables false
set_option linter.unusedSimpArgs false
set_option maxRecDepth 10000
set_option maxHeartbeats 4000000

theorem V.rd {H : Type} {enc : TypeId × Value → H} {w : World} : ∀ (fuel : Nat) (cs : List Value) (x : DataW H × List MemPlace), trd enc Try.prog w fuel 26 cs = some x → Fits Try.prog 26 x.1 → ∃ v : V, v.wf ∧ RdC w cs (v.cs false) := by
  intro fuel
  induction fuel using Nat.strongRecOn with
  | _ fuel ih =>
  intro cs x h hf
  obtain ⟨xs, n, rfl, rfl, hl, hlen, hg⟩ := DataW.trod_struct Try.underlying26 h
  obtain ⟨y0, y1, y2, y3, y4, rfl⟩ : ∃ y0 y1 y2 y3 y4, xs = [y0, y1, y2, y3, y4] := by
    match xs, hlen with
    | [y0, y1, y2, y3, y4], _ => exact ⟨y0, y1, y2, y3, y4, rfl⟩
  have h0 := hg 0 _ rfl
  obtain ⟨a0, b0, r0⟩ := rd_i64 Try.underlying3 h0
  have h1 := hg 1 _ rfl
  obtain ⟨a1, b1, r1⟩ := rd_u64 Try.underlying22 h1
  have h2 := hg 2 _ rfl
  obtain ⟨a2, b2, r2⟩ := rd_str Try.underlying9 h2 (Fits.field Try.underlying26 hf (i := 2) rfl rfl)
  have h3 := hg 3 _ rfl
  obtain ⟨a3, b3, c3, r3⟩ := rd_slice (ei := eStr) (f := fun s => [.c (str s)]) (Wf := fun s => s.length ≤ reach) Try.underlying23 (by kernel_rfl) (by kernel_rfl) (by decide) h3 (Fits.field Try.underlying26 hf (i := 3) rfl rfl) (fun _ => rfl) (fun m cs' y hm hy hfy => rd_str Try.underlying9 hy hfy)
  have h4 := hg 4 _ rfl
  obtain ⟨a4, b4, c4, r4⟩ := rd_slice (ei := eV) (f := V.cs false) (Wf := V.wf) Try.underlying24 (by kernel_rfl) (by kernel_rfl) (by decide) h4 (Fits.field Try.underlying26 hf (i := 4) rfl rfl) (fun _ => V.cs_length false _) (fun m cs' y hm hy hfy => ih m (by omega) cs' y hy hfy)
  refine ⟨.mk a0 a1 a2 a3 a4, .mk b0 b1 b2 c3 c4 b3 b4, ?_⟩
  have := (RdC.join r0 (by kernel_rfl) (by kernel_rfl) ((RdC.join r1 (by kernel_rfl) (by kernel_rfl) ((RdC.join r2 (by kernel_rfl) (by kernel_rfl) ((RdC.join r3 (by kernel_rfl) (by kernel_rfl) (RdC.last r4 (hl.trans (by kernel_rfl))))))))))
  simpa [V.cs, keysAV, V.css_eq] using this

theorem EvT.rd {H : Type} {enc : TypeId × Value → H} {w : World} : ∀ (fuel : Nat) (cs : List Value) (x : DataW H × List MemPlace), trd enc Try.prog w fuel 70 cs = some x → Fits Try.prog 70 x.1 → ∃ v : EvT, v.wf ∧ RdC w cs (v.cs false) := by
  intro fuel
  intro cs x h hf
  obtain ⟨xs, n, rfl, rfl, hl, hlen, hg⟩ := DataW.trod_struct Try.underlying70 h
  obtain ⟨y0, y1, rfl⟩ : ∃ y0 y1, xs = [y0, y1] := by
    match xs, hlen with
    | [y0, y1], _ => exact ⟨y0, y1, rfl⟩
  have h0 := hg 0 _ rfl
  obtain ⟨a0, b0, r0⟩ := rd_str Try.underlying9 h0 (Fits.field Try.underlying70 hf (i := 0) rfl rfl)
  have h1 := hg 1 _ rfl
  obtain ⟨a1, b1, r1⟩ := V.rd n _ _ h1 (Fits.field Try.underlying70 hf (i := 1) rfl rfl)
  refine ⟨⟨a0, a1⟩, ⟨b0, b1⟩, ?_⟩
  have := (RdC.join r0 (by kernel_rfl) (by kernel_rfl) (RdC.last r1 (hl.trans (by kernel_rfl))))
  simpa [EvT.cs] using this

theorem QT.rd {H : Type} {enc : TypeId × Value → H} {w : World} : ∀ (fuel : Nat) (cs : List Value) (x : DataW H × List MemPlace), trd enc Try.prog w fuel 61 cs = some x → Fits Try.prog 61 x.1 → ∃ v : QT, v.wf ∧ RdC w cs (v.cs false) := by
  intro fuel
  intro cs x h hf
  obtain ⟨xs, n, rfl, rfl, hl, hlen, hg⟩ := DataW.trod_struct Try.underlying61 h
  obtain ⟨y0, y1, y2, rfl⟩ : ∃ y0 y1 y2, xs = [y0, y1, y2] := by
    match xs, hlen with
    | [y0, y1, y2], _ => exact ⟨y0, y1, y2, rfl⟩
  have h0 := hg 0 _ rfl
  obtain ⟨a0, b0, r0⟩ := rd_i64 Try.underlying3 h0
  have h1 := hg 1 _ rfl
  obtain ⟨a1, b1, r1⟩ := rd_i64 Try.underlying3 h1
  have h2 := hg 2 _ rfl
  obtain ⟨a2, b2, c2, r2⟩ := rd_slice (ei := eEv) (f := EvT.cs false) (Wf := EvT.wf) Try.underlying56 (by kernel_rfl) (by kernel_rfl) (by decide) h2 (Fits.field Try.underlying61 hf (i := 2) rfl rfl) (fun _ => EvT.cs_length false _) (fun m cs' y hm hy hfy => EvT.rd m cs' y hy hfy)
  refine ⟨⟨a0, a1, a2⟩, ⟨b0, b1, ⟨c2, b2⟩⟩, ?_⟩
  have := (RdC.join r0 (by kernel_rfl) (by kernel_rfl) ((RdC.join r1 (by kernel_rfl) (by kernel_rfl) (RdC.last r2 (hl.trans (by kernel_rfl))))))
  simpa [QT.cs, EvT.css] using this

end Go.Proofs.Ytkiankpmkglhcaa.J

/- Items (effects on their way) and boxes of them, as plain data. -/
namespace Go.Proofs.Ytkiankpmkglhcaa.J
open Go Go.RowKit
set_option linter.unusedVariables false
set_option linter.unusedSimpArgs false

structure ItT where
  id : Int
  ev : EvT
  deriving DecidableEq

def eIt : ETy := ⟨7, 104⟩
def ItT.cs (fr : Bool) (e : ItT) : List AV := .c (.int .i64 e.id) :: e.ev.cs fr
def ItT.css (fr : Bool) (l : List ItT) : List (List AV) := l.map (ItT.cs fr)
theorem ItT.cs_length (fr : Bool) (e : ItT) : (e.cs fr).length = 7 := by simp [ItT.cs, EvT.cs_length]
theorem ItT.css_length (fr : Bool) (l : List ItT) : (ItT.css fr l).length = l.length := by simp [ItT.css]
theorem ItT.css_get (fr : Bool) {l : List ItT} {i : Nat} {v : ItT} (h : l[i]? = some v) : (ItT.css fr l)[i]? = some (v.cs fr) := by simp [ItT.css, h]
theorem ItT.css_getE (fr : Bool) {l : List ItT} {i : Nat} (h : i < l.length) : (ItT.css fr l)[i]? = some ((l[i]).cs fr) := ItT.css_get fr (List.getElem?_eq_getElem h)
theorem ItT.css_append (fr : Bool) (a b : List ItT) : ItT.css fr (a ++ b) = ItT.css fr a ++ ItT.css fr b := by simp [ItT.css]
theorem ItT.css_take (fr : Bool) (a : List ItT) (k : Nat) : ItT.css fr (a.take k) = (ItT.css fr a).take k := by simp [ItT.css, List.map_take]
theorem ItT.css_drop (fr : Bool) (a : List ItT) (k : Nat) : ItT.css fr (a.drop k) = (ItT.css fr a).drop k := by simp [ItT.css, List.map_drop]
theorem ItT.css_sz (fr : Bool) (l : List ItT) : ∀ x ∈ ItT.css fr l, x.length = eIt.sz := by
  intro x hx
  obtain ⟨v, _, rfl⟩ := List.mem_map.1 hx
  exact ItT.cs_length fr v
def Ic (fr : Bool) (e : ItT) (ys : List AV) : Prop := ys = e.cs fr
theorem Ic.self {fr : Bool} {e : ItT} : Ic fr e (e.cs fr) := rfl
theorem Ic.mk {fr : Bool} {n : Int} {v : EvT} : Ic fr ⟨n, v⟩ (.c (.int .i64 n) :: v.cs fr) := rfl
theorem Ic.mk2 {fr : Bool} {n : Int} {v : EvT} {ys : List AV} (h : Ec fr v ys) : Ic fr ⟨n, v⟩ (.c (.int .i64 n) :: ys) := by rw [h]; rfl
theorem ItT.cs_fl (fr : Bool) (e : ItT) : FlL (· = fr) (e.cs fr) := .cons (.c _) (EvT.cs_fl fr _)
theorem ItT.css_fl (fr : Bool) (l : List ItT) : FlL (· = fr) (ItT.css fr l).flatten := FlL.flat fun x hx => by
  obtain ⟨v, _, rfl⟩ := List.mem_map.1 hx
  exact v.cs_fl fr
theorem ItT.cs_le {F : List (Value × AV)} (fr fr' : Bool) (hf : fr' = true → fr = true) (e : ItT) : LeL F (e.cs fr) (e.cs fr') := .cons (.refl _) (EvT.cs_le fr fr' hf _)
theorem ItT.css_le {F : List (Value × AV)} (fr fr' : Bool) (hf : fr' = true → fr = true) : ∀ l : List ItT, LeL F (ItT.css fr l).flatten (ItT.css fr' l).flatten
  | [] => .nil
  | v :: r => by
    simp only [ItT.css, List.map_cons, List.flatten_cons]
    exact LeL.append (v.cs_le fr fr' hf) (ItT.css_le fr fr' hf r)
theorem its_le {F : List (Value × AV)} (fr fr' clip : Bool) (hf : fr' = true → fr = true) (l : List ItT) : Le F (.sl fr clip eIt (ItT.css fr l)) (.sl fr' false eIt (ItT.css fr' l)) :=
  .slL hf (by rw [ItT.css_length, ItT.css_length]) (ItT.css_sz fr' l) (ItT.css_le fr fr' hf l)
theorem its_low (l : List ItT) : LowFl (.sl false false eIt (ItT.css false l)) := .sl rfl (ItT.css_fl false l)
theorem its_fresh (l : List ItT) (c : Bool) : Fresh (.sl true c eIt (ItT.css true l)) := .sl rfl (ItT.css_fl true l)
structure ItT.wf (e : ItT) : Prop where
  id : -9223372036854775808 ≤ e.id ∧ e.id ≤ 9223372036854775807
  ev : e.ev.wf
def ItT.wfs (l : List ItT) : Prop := l.length * 104 ≤ reach ∧ ∀ e ∈ l, e.wf
theorem ItT.wfs_nil : ItT.wfs [] := ⟨by decide, fun _ h => by cases h⟩
theorem ItT.wfs.len {l : List ItT} (h : ItT.wfs l) : l.length ≤ 1353245080300 := by have := h.1; unfold reach at this; omega
theorem ItT.wfs.take {l : List ItT} (h : ItT.wfs l) (k : Nat) : ItT.wfs (l.take k) := ⟨Nat.le_trans (Nat.mul_le_mul_right _ (by simp; omega)) h.1, fun e he => h.2 e (List.mem_of_mem_take he)⟩
theorem ItT.wfs.drop {l : List ItT} (h : ItT.wfs l) (k : Nat) : ItT.wfs (l.drop k) := ⟨Nat.le_trans (Nat.mul_le_mul_right _ (by simp)) h.1, fun e he => h.2 e (List.mem_of_mem_drop he)⟩

def ItT.raw (e : ItT) (kv iv : Value) : List AV := .c (.int .i64 e.id) :: e.ev.raw kv iv
def ItT.vals (e : ItT) (kv iv : Value) : List Value := .int .i64 e.id :: e.ev.vals kv iv
theorem ItT.trL {e : ItT} {kv iv : Value} {ok oi : Own} (h : VTr e.ev.arg kv iv ok oi) : TrL (e.cs true) (e.vals kv iv) (.grp [ok, oi]) := .cons (.c (.refl _)) (EvT.trL h) (.drops _)
theorem ItT.ones {e : ItT} {kv iv : Value} {ok oi : Own} (h : VTr e.ev.arg kv iv ok oi) : (e.vals kv iv).all (·.oneCell') = true := by
  have := EvT.ones (e := e.ev) h
  simp only [ItT.vals, List.all_cons, this, Bool.and_true]
  rfl
theorem ListTr.snocI {l : List ItT} {cells : List (List AV)} {us : List Value} {o ok oi : Own} {e : ItT} {kv iv : Value} (h : ListTr eIt (ItT.css true l) cells us o) (hv : VTr e.ev.arg kv iv ok oi) :
    ListTr eIt (ItT.css true (l ++ [e])) (cells ++ [e.raw kv iv]) (us ++ e.vals kv iv) (.grp [o, .grp [ok, oi]]) := by
  rw [ItT.css_append]
  exact h.snoc (ItT.cs_length true e) (ItT.trL hv) (ItT.ones hv)
/-- Items that are owned to their last cell. -/
def ItsR (l : List ItT) : AV → List Own → Prop := fun x o => ∃ v ov, x = .c v ∧ v.oneCell' = true ∧ o = [ov] ∧ Tr (.sl true false eIt (ItT.css true l)) v ov

structure BT where
  last : Int
  items : List ItT
  deriving DecidableEq
def BT.nil : BT := ⟨0, []⟩
def BT.cs (fr : Bool) : BT → List AV
  | ⟨a, l⟩ => [.c (.int .i64 a), .sl fr false eIt (ItT.css fr l)]
theorem BT.cs_length (fr : Bool) : ∀ q : BT, (q.cs fr).length = 2
  | ⟨_, _⟩ => rfl
structure BT.wf (q : BT) : Prop where
  l1 : -9223372036854775808 ≤ q.last ∧ q.last ≤ 9223372036854775807
  it : ItT.wfs q.items
def Bc (fr : Bool) (q : BT) (ys : List AV) : Prop := ys = q.cs fr
theorem Bc.self {fr : Bool} {q : BT} : Bc fr q (q.cs fr) := rfl
theorem Bc.mk {fr : Bool} {a : Int} {l : List ItT} : Bc fr ⟨a, l⟩ [.c (.int .i64 a), .sl fr false eIt (ItT.css fr l)] := rfl
def BT.av (q : BT) : AV := .agg (q.cs true)
def itsAV (l : List ItT) : AV := .sl true false eIt (ItT.css true l)

/-! ### the page -/
def idsOk (last : Int) : Int → List ItT → Bool
  | _, [] => true
  | p, x :: r => decide (p < x.id) && decide (x.id < 32 * (last + 1)) && evOk x.ev && idsOk last x.id r
def BT.ok (q : BT) : Bool := decide (0 ≤ q.last) && decide (q.last ≤ 1099511627776) && decide (q.items.length ≤ 256) && idsOk q.last 31 q.items
def BT.err (q : BT) : Int := if q.ok then 0 else 9
def evsErr : List EvT → Int
  | [] => 0
  | e :: r => if evErr e ≠ 0 then evErr e else evsErr r
def numIt (seq : Int) : Nat → List EvT → List ItT
  | _, [] => []
  | i, e :: r => ⟨32 * seq + i, e⟩ :: numIt seq (i + 1) r
def BT.add (q : BT) (seq : Int) (l : List EvT) : BT × Int :=
  if q.ok = false then (.nil, 9) else if seq ≤ q.last then (.nil, 32) else if 1099511627776 < seq then (.nil, 4) else if 32 < l.length then (.nil, 3) else
    if evsErr l ≠ 0 then (.nil, evsErr l) else if 256 < q.items.length + l.length then (.nil, 51) else (⟨seq, q.items ++ numIt seq 0 l⟩, 0)
def BT.ack (q : BT) (id : Int) : BT × Bool × Int :=
  if q.ok = false then (.nil, false, 9) else if id < 32 ∨ 32 * (q.last + 1) ≤ id then (.nil, false, 4) else (⟨q.last, q.items.filter fun x => decide (x.id ≠ id)⟩, q.items.any fun x => decide (x.id = id), 0)
def BT.next (q : BT) (n : Int) : List ItT × Int :=
  if q.ok = false then ([], 9) else if n < 0 then ([], 4) else (q.items.take n.toNat, 0)
theorem idsOk_drop {last : Int} : ∀ {l : List ItT} {p : Int} {j : Nat} (h : j < l.length), idsOk last p l = (idsOk last p (l.take j) && idsOk last (if j = 0 then p else (l[j - 1]'(by omega)).id) (l.drop j))
  | [], p, j, h => by simp at h
  | x :: r, p, 0, h => by simp [idsOk]
  | x :: r, p, j + 1, h => by
    have := idsOk_drop (last := last) (l := r) (p := x.id) (j := j) (by simpa using h)
    simp only [idsOk, List.take_succ_cons, List.drop_succ_cons, Nat.succ_ne_zero, if_false, Nat.add_sub_cancel]
    rw [this]
    have he : (if j = 0 then x.id else (r[j - 1]'(by simp at h; omega)).id) = ((x :: r)[j]'(by simp at h ⊢; omega)).id := by
      cases j with
      | zero => simp
      | succ j => simp
    rw [he]
    simp [Bool.and_assoc]
end Go.Proofs.Ytkiankpmkglhcaa.J

/- What the inputs of the outbox laws read as. -/
namespace Go.Proofs.Ytkiankpmkglhcaa.J
open Go Go.RowKit
set_option linter.unusedVariables false
set_option linter.unusedSimpArgs false
set_option maxRecDepth 10000
set_option maxHeartbeats 4000000

theorem EvT.rdE {H : Type} {enc : TypeId × Value → H} {w : World} : ∀ (fuel : Nat) (cs : List Value) (x : DataW H × List MemPlace), trd enc Try.prog w fuel 114 cs = some x → Fits Try.prog 114 x.1 → ∃ v : EvT, v.wf ∧ RdC w cs (v.cs false) := by
  intro fuel
  intro cs x h hf
  obtain ⟨xs, n, rfl, rfl, hl, hlen, hg⟩ := DataW.trod_struct Try.underlying114 h
  obtain ⟨y0, y1, rfl⟩ : ∃ y0 y1, xs = [y0, y1] := by
    match xs, hlen with
    | [y0, y1], _ => exact ⟨y0, y1, rfl⟩
  have h0 := hg 0 _ rfl
  obtain ⟨a0, b0, r0⟩ := rd_str Try.underlying9 h0 (Fits.field Try.underlying114 hf (i := 0) rfl rfl)
  have h1 := hg 1 _ rfl
  obtain ⟨a1, b1, r1⟩ := V.rd n _ _ h1 (Fits.field Try.underlying114 hf (i := 1) rfl rfl)
  refine ⟨⟨a0, a1⟩, ⟨b0, b1⟩, ?_⟩
  have := (RdC.join r0 (by kernel_rfl) (by kernel_rfl) (RdC.last r1 (hl.trans (by kernel_rfl))))
  simpa [EvT.cs] using this

theorem ItT.rd {H : Type} {enc : TypeId × Value → H} {w : World} : ∀ (fuel : Nat) (cs : List Value) (x : DataW H × List MemPlace), trd enc Try.prog w fuel 116 cs = some x → Fits Try.prog 116 x.1 → ∃ v : ItT, v.wf ∧ RdC w cs (v.cs false) := by
  intro fuel
  intro cs x h hf
  obtain ⟨xs, n, rfl, rfl, hl, hlen, hg⟩ := DataW.trod_struct Try.underlying116 h
  obtain ⟨y0, y1, rfl⟩ : ∃ y0 y1, xs = [y0, y1] := by
    match xs, hlen with
    | [y0, y1], _ => exact ⟨y0, y1, rfl⟩
  have h0 := hg 0 _ rfl
  obtain ⟨a0, b0, r0⟩ := rd_i64 Try.underlying3 h0
  have h1 := hg 1 _ rfl
  obtain ⟨a1, b1, r1⟩ := EvT.rdE n _ _ h1 (Fits.field Try.underlying116 hf (i := 1) rfl rfl)
  refine ⟨⟨a0, a1⟩, ⟨b0, b1⟩, ?_⟩
  have := (RdC.join r0 (by kernel_rfl) (by kernel_rfl) (RdC.last r1 (hl.trans (by kernel_rfl))))
  simpa [ItT.cs] using this

theorem BT.rd {H : Type} {enc : TypeId × Value → H} {w : World} : ∀ (fuel : Nat) (cs : List Value) (x : DataW H × List MemPlace), trd enc Try.prog w fuel 90 cs = some x → Fits Try.prog 90 x.1 → ∃ v : BT, v.wf ∧ RdC w cs (v.cs false) := by
  intro fuel
  intro cs x h hf
  obtain ⟨xs, n, rfl, rfl, hl, hlen, hg⟩ := DataW.trod_struct Try.underlying90 h
  obtain ⟨y0, y1, rfl⟩ : ∃ y0 y1, xs = [y0, y1] := by
    match xs, hlen with
    | [y0, y1], _ => exact ⟨y0, y1, rfl⟩
  have h0 := hg 0 _ rfl
  obtain ⟨a0, b0, r0⟩ := rd_i64 Try.underlying3 h0
  have h1 := hg 1 _ rfl
  obtain ⟨a1, b1, c1, r1⟩ := rd_slice (ei := eIt) (f := ItT.cs false) (Wf := ItT.wf) Try.underlying88 (by kernel_rfl) (by kernel_rfl) (by decide) h1 (Fits.field Try.underlying90 hf (i := 1) rfl rfl) (fun _ => ItT.cs_length false _) (fun m cs' y hm hy hfy => ItT.rd m cs' y hy hfy)
  refine ⟨⟨a0, a1⟩, ⟨b0, ⟨c1, b1⟩⟩, ?_⟩
  have := (RdC.join r0 (by kernel_rfl) (by kernel_rfl) (RdC.last r1 (hl.trans (by kernel_rfl))))
  simpa [BT.cs, ItT.css] using this

end Go.Proofs.Ytkiankpmkglhcaa.J

/- Walks: numbers (the package float), first part. -/
namespace Go.Proofs.Ytkiankpmkglhcaa.J
open Go Go.RowKit
set_option linter.unusedVariables false
set_option linter.unusedSimpArgs false
set_option maxRecDepth 10000
set_option maxHeartbeats 4000000


theorem of_ok (b : Nat) : Fn Try.prog 142 [.c (flt b)] (.c (.int .u64 (canonN b : Int))) := by
  refine AC.of_J Try.func142 rfl Try.ntmps142 rfl fun w0 A0 => ?_
  refine J.seq ?_
  refine J.region_lit ?_
  refine JL.q rfl rfl rfl (QW.assign .const) ?_
  refine JL.nil ?_
  refine thenQ.n ?_
  refine J.seq ?_
  refine J.seq ?_
  refine J.region_lit ?_
  refine JL.q rfl rfl rfl (QW.move (.tmp rfl)) ?_
  refine JL.q rfl rfl rfl (QW.move (.tmp rfl)) ?_
  refine JL.q rfl rfl rfl (QW.neq_f (.tmp rfl) (.tmp rfl)) ?_
  refine JL.nil ?_
  refine thenQ.n ?_
  refine J.cond (.tmp rfl) (fun c1 => ?_) (fun c1 => ?_)
  · skip
    refine J.seq ?_
    refine J.region_lit ?_
    refine JL.q rfl rfl rfl (QW.assign .const) ?_
    refine JL.nil ?_
    refine thenQ.n ?_
    refine J.ret ?_
    refine thenQ.r ?_
    exact ⟨_, [], _, RetEv.one rfl (REv.tmp rfl (.refl _)), rfl, List.Perm.refl _, by rw [fneq_self] at c1; simp [canonN, c1, oneNan], rfl⟩
  · skip
    refine J.skip ?_
    refine thenQ.n ?_
    refine J.seq ?_
    refine J.region_lit ?_
    refine JL.q rfl rfl rfl (QW.move (.tmp rfl)) ?_
    refine JL.q rfl rfl rfl (QW.ext (extBits _) (.tmp rfl)) ?_
    refine JL.q rfl rfl rfl (QW.assign (.tmp rfl)) ?_
    refine JL.nil ?_
    refine thenQ.n ?_
    refine J.ret ?_
    exact ⟨_, [], _, RetEv.one rfl (REv.tmp rfl (.refl _)), rfl, List.Perm.refl _, by rw [fneq_self] at c1; simp [canonN, c1], rfl⟩


theorem canon_ok (b : Nat) : Fn Try.prog 128 [.c (.int .u64 (b : Int))] (.c (.int .u64 (canonN b : Int))) := by
  refine AC.of_J Try.func128 rfl Try.ntmps128 rfl fun w0 A0 => ?_
  refine J.seq ?_
  refine J.region_lit ?_
  refine JL.q rfl rfl rfl (QW.assign .const) ?_
  refine JL.nil ?_
  refine thenQ.n ?_
  refine J.seq ?_
  refine J.region_lit ?_
  refine JL.q rfl rfl rfl (QW.move (.tmp rfl)) ?_
  refine JL.q rfl rfl rfl (QW.ext (extFrom _) (.tmp rfl)) ?_
  refine JL.q rfl rfl rfl (QW.call gofn142 (.cons (.tmp rfl) .nil) (by (apply of_ok <;> first | assumption | omega))) ?_
  refine JL.q rfl rfl rfl (QW.assign (.tmp rfl)) ?_
  refine JL.nil ?_
  refine thenQ.n ?_
  refine J.ret ?_
  exact ⟨_, [], _, RetEv.one rfl (REv.tmp rfl (.refl _)), rfl, List.Perm.refl _, rfl, rfl⟩

end Go.Proofs.Ytkiankpmkglhcaa.J

/- Walks: the page's own classes of numbers (the package fanlightref01), for the seats that reach no more of it. -/
namespace Go.Proofs.Ytkiankpmkglhcaa.J
open Go Go.RowKit
set_option linter.unusedVariables false
set_option linter.unusedSimpArgs false
set_option maxRecDepth 10000
set_option maxHeartbeats 4000000

theorem class_nan {b : Nat} : classN b = 5 ↔ isNan b = true := by
  unfold classN
  cases isNan b with
  | true => simp
  | false =>
    simp only [Bool.false_eq_true, if_false, iff_false]
    (repeat' split) <;> omega
def expN (b : Nat) : Nat := b / 2 ^ 52 % 2048
def fracN (b : Nat) : Nat := b % 2 ^ 52
theorem and_mask2 {b : Nat} (k : Nat) (hb : b < 2 ^ 64) (hk : 2 ^ k - 1 < 2 ^ 64) : bitsOp .and .u64 (b : Int) ((2 ^ k - 1 : Nat) : Int) = ((b % 2 ^ k : Nat) : Int) := by
  rw [bits_and b _ hb hk, Nat.and_two_pow_sub_one_eq_mod]
theorem frac_bits {b : Nat} (hb : b < 2 ^ 64) : bitsOp .and .u64 (b : Int) 4503599627370495 = (fracN b : Int) := and_mask2 52 hb (by decide)
theorem exp_bits {b : Nat} (hb : b < 2 ^ 64) : bitsOp .and .u64 ((b / 2 ^ 52 : Nat) : Int) 2047 = (expN b : Int) := and_mask2 11 (by omega) (by decide)
theorem rung_fields (b : Nat) : rung b = expN b * 2 ^ 52 + fracN b := by unfold rung expN fracN; omega
theorem exp_lt (b : Nat) : expN b < 2048 := Nat.mod_lt _ (by decide)
theorem frac_lt (b : Nat) : fracN b < 2 ^ 52 := Nat.mod_lt _ (by decide)
theorem nan_fields (b : Nat) : isNan b = true ↔ expN b = 2047 ∧ fracN b ≠ 0 := by
  rw [isNan_eq, decide_eq_true_eq, rung_fields]
  have h1 := exp_lt b
  have h2 := frac_lt b
  unfold infR
  omega
theorem canon_lt {b : Nat} (h : b < 2 ^ 64) : canonN b < 2 ^ 64 := by unfold canonN oneNan; split <;> omega
theorem nanAny_lt {c : Nat} (h : nanAny c) : c < 2 ^ 64 := by
  obtain ⟨t, rfl⟩ := h
  have h1 := Nat.mod_lt t (show 0 < 2 by decide)
  have h2 := Nat.mod_lt (t / 2) (show 0 < 2 ^ 52 - 1 by decide)
  omega
theorem class_two {b : Nat} (hb : b < 2 ^ 64) : classN b =
    if expN b = 2047 ∧ fracN b ≠ 0 then 5 else if expN b = 2047 then 4 else if 0 < expN b then 3 else if 0 < fracN b then 2 else if b = 2 ^ 63 then 1 else 0 := by
  have h := nan_fields b
  have h1 := exp_lt b
  have h2 := frac_lt b
  have h3 := rung_fields b
  have h4 : b = 2 ^ 63 ↔ (rung b = 0 ∧ 2 ^ 63 ≤ b) := by unfold rung; omega
  unfold classN
  unfold infR
  cases hn : isNan b with
  | true => rw [if_pos rfl, if_pos (h.1 hn)]
  | false =>
    rw [hn] at h
    have h' : ¬ (expN b = 2047 ∧ fracN b ≠ 0) := fun e => by have := h.2 e; cases this
    rw [if_neg (by decide), if_neg h']
    repeat' split
    all_goals first | rfl | omega


theorem rexp_ok (b : Nat) (hb : b < 2 ^ 64) : Fn Try.prog 145 [.c (.int .u64 (b : Int))] (.c (.int .i64 (expN b : Int))) := by
  refine AC.of_J Try.func145 rfl Try.ntmps145 rfl fun w0 A0 => ?_
  refine J.seq ?_
  refine J.region_lit ?_
  refine JL.q rfl rfl rfl (QW.assign .const) ?_
  refine JL.nil ?_
  refine thenQ.n ?_
  refine J.seq ?_
  refine J.region_lit ?_
  refine JL.q rfl rfl rfl (QW.move (.tmp rfl)) ?_
  refine JL.q rfl rfl rfl (QW.shr (c := ((b / 2 ^ 52 : Nat) : Int)) (.tmp rfl) .const (by decide) (shr_nat b 52)) ?_
  refine JL.q rfl rfl rfl (QW.and (.tmp rfl) .const (exp_bits hb)) ?_
  refine JL.q rfl rfl rfl (QW.conv_int (c := (expN b : Int)) us22 iu3 (.tmp rfl) (w64 (by have := exp_lt b; omega))) ?_
  refine JL.q rfl rfl rfl (QW.assign (.tmp rfl)) ?_
  refine JL.nil ?_
  refine thenQ.n ?_
  refine J.ret ?_
  exact ⟨_, [], _, RetEv.one rfl (REv.tmp rfl (.refl _)), rfl, List.Perm.refl _, rfl, rfl⟩


theorem rfrac_ok (b : Nat) (hb : b < 2 ^ 64) : Fn Try.prog 146 [.c (.int .u64 (b : Int))] (.c (.int .u64 (fracN b : Int))) := by
  refine AC.of_J Try.func146 rfl Try.ntmps146 rfl fun w0 A0 => ?_
  refine J.seq ?_
  refine J.region_lit ?_
  refine JL.q rfl rfl rfl (QW.assign .const) ?_
  refine JL.nil ?_
  refine thenQ.n ?_
  refine J.seq ?_
  refine J.region_lit ?_
  refine JL.q rfl rfl rfl (QW.move (.tmp rfl)) ?_
  refine JL.q rfl rfl rfl (QW.and (.tmp rfl) .const (frac_bits hb)) ?_
  refine JL.q rfl rfl rfl (QW.assign (.tmp rfl)) ?_
  refine JL.nil ?_
  refine thenQ.n ?_
  refine J.ret ?_
  exact ⟨_, [], _, RetEv.one rfl (REv.tmp rfl (.refl _)), rfl, List.Perm.refl _, rfl, rfl⟩


theorem rclass_ok (b : Nat) (hb : b < 2 ^ 64) : Fn Try.prog 141 [.c (.int .u64 (b : Int))] (.c (.int .i64 (classN b))) := by
  refine AC.of_J Try.func141 rfl Try.ntmps141 rfl fun w0 A0 => ?_
  refine J.seq ?_
  refine J.region_lit ?_
  refine JL.q rfl rfl rfl (QW.assign .const) ?_
  refine JL.nil ?_
  refine thenQ.n ?_
  refine J.seq ?_
  refine J.block ?_
  refine J.seq ?_
  refine J.region_lit ?_
  refine JL.q rfl rfl rfl (QW.move (.tmp rfl)) ?_
  refine JL.q rfl rfl rfl (QW.call gofn145 (.cons (.tmp rfl) .nil) (by (apply rexp_ok <;> first | assumption | omega))) ?_
  refine JL.q rfl rfl rfl (QW.eql (.tmp rfl) .const) ?_
  refine JL.q rfl rfl rfl (QW.move (.tmp rfl)) ?_
  refine JL.g rfl rfl rfl rfl rfl (fun hg => (QW.move (.tmp rfl))) ?_
  refine JL.g rfl rfl rfl rfl rfl (fun hg => (QW.call gofn146 (.cons (.when rfl hg) .nil) (by (apply rfrac_ok <;> first | assumption | omega)))) ?_
  refine JL.g rfl rfl rfl rfl rfl (fun hg => (QW.neq (.when rfl hg) .const)) ?_
  refine JL.q rfl rfl rfl (QW.pick_and (.tmp rfl) (.tmp rfl)) ?_
  refine JL.q rfl rfl rfl (QW.assign (.tmp rfl)) ?_
  refine JL.nil ?_
  refine thenQ.n ?_
  refine J.cond (.tmp rfl) (fun c1 => ?_) (fun c1 => ?_)
  ·
    simp at c1
    refine J.seq ?_
    refine J.region_lit ?_
    refine JL.q rfl rfl rfl (QW.assign .const) ?_
    refine JL.nil ?_
    refine thenQ.n ?_
    refine J.ret ?_
    refine blkQ.r ?_
    refine thenQ.r ?_
    exact ⟨_, [], _, RetEv.one rfl (REv.tmp rfl (.refl _)), rfl, List.Perm.refl _, by rw [class_two hb, if_pos (by omega)], rfl⟩
  ·
    simp at c1
    refine J.seq ?_
    refine J.region_lit ?_
    refine JL.q rfl rfl rfl (QW.move (.tmp rfl)) ?_
    refine JL.q rfl rfl rfl (QW.call gofn145 (.cons (.tmp rfl) .nil) (by (apply rexp_ok <;> first | assumption | omega))) ?_
    refine JL.q rfl rfl rfl (QW.eql (.tmp rfl) .const) ?_
    refine JL.q rfl rfl rfl (QW.assign (.tmp rfl)) ?_
    refine JL.nil ?_
    refine thenQ.n ?_
    refine J.cond (.tmp rfl) (fun c2 => ?_) (fun c2 => ?_)
    ·
      simp at c2
      refine J.seq ?_
      refine J.region_lit ?_
      refine JL.q rfl rfl rfl (QW.assign .const) ?_
      refine JL.nil ?_
      refine thenQ.n ?_
      refine J.ret ?_
      refine blkQ.r ?_
      refine thenQ.r ?_
      exact ⟨_, [], _, RetEv.one rfl (REv.tmp rfl (.refl _)), rfl, List.Perm.refl _, by rw [class_two hb, if_neg (by omega), if_pos (by omega)], rfl⟩
    ·
      simp at c2
      refine J.seq ?_
      refine J.region_lit ?_
      refine JL.q rfl rfl rfl (QW.move (.tmp rfl)) ?_
      refine JL.q rfl rfl rfl (QW.call gofn145 (.cons (.tmp rfl) .nil) (by (apply rexp_ok <;> first | assumption | omega))) ?_
      refine JL.q rfl rfl rfl (QW.gtr (.tmp rfl) .const) ?_
      refine JL.q rfl rfl rfl (QW.assign (.tmp rfl)) ?_
      refine JL.nil ?_
      refine thenQ.n ?_
      refine J.cond (.tmp rfl) (fun c3 => ?_) (fun c3 => ?_)
      ·
        simp at c3
        refine J.seq ?_
        refine J.region_lit ?_
        refine JL.q rfl rfl rfl (QW.assign .const) ?_
        refine JL.nil ?_
        refine thenQ.n ?_
        refine J.ret ?_
        refine blkQ.r ?_
        refine thenQ.r ?_
        exact ⟨_, [], _, RetEv.one rfl (REv.tmp rfl (.refl _)), rfl, List.Perm.refl _, by rw [class_two hb, if_neg (by omega), if_neg (by omega), if_pos (by omega)], rfl⟩
      ·
        simp at c3
        refine J.seq ?_
        refine J.region_lit ?_
        refine JL.q rfl rfl rfl (QW.move (.tmp rfl)) ?_
        refine JL.q rfl rfl rfl (QW.call gofn146 (.cons (.tmp rfl) .nil) (by (apply rfrac_ok <;> first | assumption | omega))) ?_
        refine JL.q rfl rfl rfl (QW.gtr (.tmp rfl) .const) ?_
        refine JL.q rfl rfl rfl (QW.assign (.tmp rfl)) ?_
        refine JL.nil ?_
        refine thenQ.n ?_
        refine J.cond (.tmp rfl) (fun c4 => ?_) (fun c4 => ?_)
        ·
          simp at c4
          refine J.seq ?_
          refine J.region_lit ?_
          refine JL.q rfl rfl rfl (QW.assign .const) ?_
          refine JL.nil ?_
          refine thenQ.n ?_
          refine J.ret ?_
          refine blkQ.r ?_
          refine thenQ.r ?_
          exact ⟨_, [], _, RetEv.one rfl (REv.tmp rfl (.refl _)), rfl, List.Perm.refl _, by rw [class_two hb, if_neg (by omega), if_neg (by omega), if_neg (by omega), if_pos (by omega)], rfl⟩
        ·
          simp at c4
          refine J.seq ?_
          refine J.region_lit ?_
          refine JL.q rfl rfl rfl (QW.move (.tmp rfl)) ?_
          refine JL.q rfl rfl rfl (QW.eql (.tmp rfl) .const) ?_
          refine JL.q rfl rfl rfl (QW.assign (.tmp rfl)) ?_
          refine JL.nil ?_
          refine thenQ.n ?_
          refine J.cond (.tmp rfl) (fun c5 => ?_) (fun c5 => ?_)
          ·
            simp at c5
            refine J.seq ?_
            refine J.region_lit ?_
            refine JL.q rfl rfl rfl (QW.assign .const) ?_
            refine JL.nil ?_
            refine thenQ.n ?_
            refine J.ret ?_
            refine blkQ.r ?_
            refine thenQ.r ?_
            exact ⟨_, [], _, RetEv.one rfl (REv.tmp rfl (.refl _)), rfl, List.Perm.refl _, by rw [class_two hb, if_neg (by omega), if_neg (by omega), if_neg (by omega), if_neg (by omega), if_pos (by omega)], rfl⟩
          ·
            simp at c5
            refine J.skip ?_
            refine blkQ.n ?_
            refine thenQ.n ?_
            refine J.seq ?_
            refine J.region_lit ?_
            refine JL.q rfl rfl rfl (QW.assign .const) ?_
            refine JL.nil ?_
            refine thenQ.n ?_
            refine J.ret ?_
            exact ⟨_, [], _, RetEv.one rfl (REv.tmp rfl (.refl _)), rfl, List.Perm.refl _, by rw [class_two hb, if_neg (by omega), if_neg (by omega), if_neg (by omega), if_neg (by omega), if_neg (by omega)], rfl⟩


theorem rcanon_ok (b : Nat) (hb : b < 2 ^ 64) : Fn Try.prog 130 [.c (.int .u64 (b : Int))] (.c (.int .u64 (canonN b : Int))) := by
  refine AC.of_J Try.func130 rfl Try.ntmps130 rfl fun w0 A0 => ?_
  refine J.seq ?_
  refine J.region_lit ?_
  refine JL.q rfl rfl rfl (QW.assign .const) ?_
  refine JL.nil ?_
  refine thenQ.n ?_
  refine J.seq ?_
  refine J.seq ?_
  refine J.region_lit ?_
  refine JL.q rfl rfl rfl (QW.move (.tmp rfl)) ?_
  refine JL.q rfl rfl rfl (QW.call gofn141 (.cons (.tmp rfl) .nil) (by (apply rclass_ok <;> first | assumption | omega))) ?_
  refine JL.q rfl rfl rfl (QW.eql (.tmp rfl) .const) ?_
  refine JL.nil ?_
  refine thenQ.n ?_
  refine J.cond (.tmp rfl) (fun c1 => ?_) (fun c1 => ?_)
  ·
    simp at c1
    refine J.seq ?_
    refine J.region_lit ?_
    refine JL.q rfl rfl rfl (QW.assign .const) ?_
    refine JL.nil ?_
    refine thenQ.n ?_
    refine J.ret ?_
    refine thenQ.r ?_
    exact ⟨_, [], _, RetEv.one rfl (REv.tmp rfl (.refl _)), rfl, List.Perm.refl _, by simp [canonN, class_nan.1 (show classN b = 5 by omega)]; rfl, rfl⟩
  ·
    simp at c1
    refine J.skip ?_
    refine thenQ.n ?_
    refine J.seq ?_
    refine J.region_lit ?_
    refine JL.q rfl rfl rfl (QW.move (.tmp rfl)) ?_
    refine JL.q rfl rfl rfl (QW.assign (.tmp rfl)) ?_
    refine JL.nil ?_
    refine thenQ.n ?_
    refine J.ret ?_
    exact ⟨_, [], _, RetEv.one rfl (REv.tmp rfl (.refl _)), rfl, List.Perm.refl _, by unfold canonN; rw [if_neg (fun h => c1 (by rw [class_nan.2 h]))], rfl⟩

end Go.Proofs.Ytkiankpmkglhcaa.J

/- Walks: the value package, one part. -/
namespace Go.Proofs.Ytkiankpmkglhcaa.J
open Go Go.RowKit
set_option linter.unusedVariables false
set_option linter.unusedSimpArgs false
set_option maxRecDepth 10000
set_option maxHeartbeats 4000000

theorem key_ok (s : Str) : Fn Try.prog 110 [.c (str s)] (.c (.bool (keyOk s))) := by
  refine AC.of_J Try.func110 rfl Try.ntmps110 rfl fun w0 A0 => ?_
  refine J.seq ?_
  refine J.region_lit ?_
  refine JL.q rfl rfl rfl (QW.assign .const) ?_
  refine JL.nil ?_
  refine thenQ.n ?_
  refine J.seq ?_
  refine J.region_lit ?_
  refine JL.q rfl rfl rfl (QW.move (.tmp rfl)) ?_
  refine JL.q rfl rfl rfl (QW.neq_s (.tmp rfl) .const) ?_
  refine JL.q rfl rfl rfl (QW.move (.tmp rfl)) ?_
  refine JL.g rfl rfl rfl rfl rfl (fun hg => (QW.move (.tmp rfl))) ?_
  refine JL.g rfl rfl rfl rfl rfl (fun hg => (QW.len_s st9 (.when rfl hg))) ?_
  refine JL.g rfl rfl rfl rfl rfl (fun hg => (QW.leq (.when rfl hg) .const)) ?_
  refine JL.q rfl rfl rfl (QW.pick_and (.tmp rfl) (.tmp rfl)) ?_
  refine JL.q rfl rfl rfl (QW.assign (.tmp rfl)) ?_
  refine JL.nil ?_
  refine thenQ.n ?_
  refine J.ret ?_
  exact ⟨_, selP [] _, _, RetEv.one rfl (REv.tmp rfl (.refl _)), rfl, sel_perm [] _, ⟨by simp only [keyOk]; congr 3; rw [Bool.eq_iff_iff]; cases s <;> simp [bne] <;> omega, rfl⟩⟩

theorem rkey_ok (s : Str) : Fn Try.prog 131 [.c (str s)] (.c (.bool (keyOk s))) := by
  refine AC.of_J Try.func131 rfl Try.ntmps131 rfl fun w0 A0 => ?_
  refine J.seq ?_
  refine J.region_lit ?_
  refine JL.q rfl rfl rfl (QW.assign .const) ?_
  refine JL.nil ?_
  refine thenQ.n ?_
  refine J.seq ?_
  refine J.region_lit ?_
  refine JL.q rfl rfl rfl (QW.move (.tmp rfl)) ?_
  refine JL.q rfl rfl rfl (QW.len_s st9 (.tmp rfl)) ?_
  refine JL.q rfl rfl rfl (QW.geq (.tmp rfl) .const) ?_
  refine JL.q rfl rfl rfl (QW.move (.tmp rfl)) ?_
  refine JL.g rfl rfl rfl rfl rfl (fun hg => (QW.move (.tmp rfl))) ?_
  refine JL.g rfl rfl rfl rfl rfl (fun hg => (QW.len_s st9 (.when rfl hg))) ?_
  refine JL.g rfl rfl rfl rfl rfl (fun hg => (QW.leq (.when rfl hg) .const)) ?_
  refine JL.q rfl rfl rfl (QW.pick_and (.tmp rfl) (.tmp rfl)) ?_
  refine JL.q rfl rfl rfl (QW.assign (.tmp rfl)) ?_
  refine JL.nil ?_
  refine thenQ.n ?_
  refine J.ret ?_
  exact ⟨_, selP [] _, _, RetEv.one rfl (REv.tmp rfl (.refl _)), rfl, sel_perm [] _, ⟨by simp only [keyOk]; congr 3; rw [Bool.eq_iff_iff]; simp; omega, rfl⟩⟩

theorem keyAt_eq {l : List Str} {k : Nat} (hk : k < l.length) : keyAt l k = (keyOk l[k] && (k == 0 || Op.bytesLess (l.getD (k - 1) []) l[k])) := by simp [keyAt, hk]
theorem keysAV_getD {ks : List Str} {i : Nat} (h : i < ks.length) : (keysAV ks)[i]? = some [.c (str (ks.getD i []))] := by simp [keysAV, h]
theorem bytesLess_tri : ∀ (a b : List UInt8), (Op.bytesLess a b || a == b) = !Op.bytesLess b a
  | [], [] => by simp [Op.bytesLess]
  | [], y :: b => by simp [Op.bytesLess]
  | x :: a, [] => by simp [Op.bytesLess]
  | x :: a, y :: b => by
    have ih := bytesLess_tri a b
    simp only [Op.bytesLess]
    by_cases h : x < y
    · have h' : ¬ y < x := fun h' => by have := UInt8.lt_iff_toNat_lt.1 h; have := UInt8.lt_iff_toNat_lt.1 h'; omega
      have hne : (y == x) = false := by simp; intro e; subst e; exact h' h
      simp [h, h', hne]
    · by_cases he : x = y
      · subst he
        simpa [h] using ih
      · have h' : y < x := by
          have hn : ¬ x.toNat < y.toNat := fun hh => h (UInt8.lt_iff_toNat_lt.2 hh)
          have hn2 : x.toNat ≠ y.toNat := fun hh => he (UInt8.toNat_inj.1 hh)
          exact UInt8.lt_iff_toNat_lt.2 (by omega)
        have hne : (x == y) = false := by simpa using he
        simp [h, h', hne]

theorem keys_ok (fr : Bool) (l : List Str) (hl : l.length ≤ 9223372036854775806) : Fn Try.prog 129 [.sl fr false eStr (keysAV l)] (.c (.bool (keysOk l))) := by
  refine AC.of_J Try.func129 rfl Try.ntmps129 rfl fun w0 A0 => ?_
  refine J.seq ?_
  refine J.region_lit ?_
  refine JL.q rfl rfl rfl (QW.assign .const) ?_
  refine JL.nil ?_
  refine thenQ.n ?_
  refine J.seq ?_
  refine J.seq ?_
  refine J.region_lit ?_
  refine JL.q rfl rfl rfl (QW.move (.tmp rfl)) ?_
  refine JL.q rfl rfl rfl (by first | exact QW.len_sl sl23 (.tmp rfl) | exact QW.len_nil sl23 (.tmp rfl)) ?_
  refine JL.q rfl rfl rfl (QW.move .const) ?_
  refine JL.nil ?_
  refine thenQ.n ?_
  refine J.block ?_
  refine J.loopK (ι := Nat) [0, 5, 6] (fun k => [(7, .c (.int .i64 (k : Int)))]) (fun _ oo => oo) (fun k => k ≤ l.length ∧ (List.range k).all (keyAt l) = true) (fun k => l.length - k) 0 (by simp) (Wk.re (.cons rfl (.refl _) (.cons rfl (.refl _) (.cons rfl (.refl _) (.cons rfl (.refl _) .nil)))) (Reown.refl _) (fun _ h => by first | exact h | simp [h])) ?_
  intro k ⟨hk, hall⟩
  refine J.conv (by (try simp only [stepsO, List.map_cons, List.map_nil, valO, nthO, curO, mrg, List.reverse_cons, List.reverse_nil, List.nil_append, List.cons_append, List.append_nil, List.getElem?_cons_zero, List.getElem?_cons_succ, Option.map_some, Option.getD_some, List.set_cons_zero, List.set_cons_succ, AV.cellsOf, splice_zero, splice_succ, Nat.zero_add, Nat.reduceAdd]); rfl) ?_
  refine J.seq ?_
  refine J.region_lit ?_
  refine JL.q rfl rfl rfl (QW.lss (.tmp rfl) (.tmp rfl)) ?_
  refine JL.nil ?_
  refine thenQ.n ?_
  refine J.seq ?_
  refine J.cond (.tmp rfl) (fun c1 => ?_) (fun c1 => ?_)
  · skip
    simp [keysAV_length] at c1
    refine J.skip ?_
    refine thenQ.n ?_
    refine J.seq ?_
    refine J.block ?_
    refine J.seq ?_
    refine J.region_lit ?_
    refine JL.q rfl rfl rfl (QW.move (.tmp rfl)) ?_
    refine JL.q rfl rfl rfl (QW.index_sl sl23 ty9 rfl (.tmp rfl) (.tmp rfl) (by first | rfl | omega | (simp; done)) (by exact keysAV_getD (by omega))) ?_
    refine JL.q rfl rfl rfl (QW.load_ref1 ty9 (.tmp rfl) rfl) ?_
    refine JL.q rfl rfl rfl (QW.assign (.tmp rfl)) ?_
    refine JL.q rfl rfl rfl (QW.assign (.tmp rfl)) ?_
    refine JL.nil ?_
    refine thenQ.n ?_
    refine J.seq ?_
    refine J.region_lit ?_
    refine JL.q rfl rfl rfl (QW.move (.tmp rfl)) ?_
    refine JL.q rfl rfl rfl (QW.call gofn110 (.cons (.tmp rfl) .nil) (key_ok _)) ?_
    refine JL.q rfl rfl rfl (QW.not (.tmp rfl)) ?_
    refine JL.q rfl rfl rfl (QW.move (.tmp rfl)) ?_
    refine JL.g rfl rfl rfl rfl rfl (fun hg => (QW.move (.tmp rfl))) ?_
    refine JL.g rfl rfl rfl rfl rfl (fun hg => (QW.gtr (.when rfl hg) .const)) ?_
    refine JL.g rfl rfl rfl rfl rfl (fun hg => (QW.move (.when rfl hg))) ?_
    refine JL.gg rfl rfl rfl rfl rfl (fun hg => (QW.move (.tmp rfl))) ?_
    refine JL.gg rfl rfl rfl rfl rfl (fun hg => (QW.move (.tmp rfl))) ?_
    refine JL.gg rfl rfl rfl rfl rfl (fun hg => (QW.sub (.when rfl hg) .const (by first | exact w64n (by first | rfl | omega | (simp; done)) (by omega) | exact w64 (by omega) | rfl))) ?_
    refine JL.gg rfl rfl rfl rfl rfl (fun hg => QW.index_sl (m := k - 1) sl23 ty9 rfl (.when rfl hg) (.when rfl hg) (by simp at hg; omega) (keysAV_getD (by omega))) ?_
    refine JL.gg rfl rfl rfl rfl rfl (fun hg => (QW.load_ref1 ty9 (.when rfl hg) rfl)) ?_
    refine JL.gg rfl rfl rfl rfl rfl (fun hg => (QW.move (.tmp rfl))) ?_
    refine JL.gg rfl rfl rfl rfl rfl (fun hg => (QW.geq_s (.when rfl hg) (.when rfl hg))) ?_
    refine JL.g rfl rfl rfl rfl rfl (fun hg => (by first | exact QW.pick_and (.when rfl hg) (.tmp rfl) | exact QW.pick_and2 hg (.when rfl hg) (.tmp rfl))) ?_
    refine JL.q rfl rfl rfl (QW.pick_or (.tmp rfl) (.tmp rfl)) ?_
    refine JL.nil ?_
    refine thenQ.n ?_
    refine J.cond (.tmp rfl) (fun c2 => ?_) (fun c2 => ?_)
    · skip
      have hbad : keyAt l k = false := by
        simp [keyAt] at c2 ⊢
        grind
      refine J.seq ?_
      refine J.region_lit ?_
      refine JL.q rfl rfl rfl (QW.assign .const) ?_
      refine JL.nil ?_
      refine thenQ.n ?_
      refine J.ret ?_
      refine blkQ.r ?_
      refine thenQ.r ?_
      refine thenQ.r ?_
      refine blkQ.r ?_
      refine thenQ.r ?_
      exact ⟨_, selP [] _, _, RetEv.one rfl (REv.tmp rfl (.refl _)), rfl, sel_perm [] _, ⟨by rw [keysOk, all_range_false (by omega) hbad], rfl⟩⟩
    · skip
      have hgood : keyAt l k = true := by
        simp [keyAt] at c2 ⊢
        grind
      refine J.skip ?_
      refine blkQ.n ?_
      refine thenQ.n ?_
      refine J.region_lit ?_
      refine JL.q rfl rfl rfl (QW.add (.tmp rfl) .const (by first | exact w64n (by first | rfl | omega | (simp; done)) (by omega) | exact w64 (by omega) | rfl)) ?_
      refine JL.q rfl rfl rfl (QW.move (.tmp rfl)) ?_
      refine JL.nil ?_
      refine thenQ.n ?_
      exact ⟨k + 1, ⟨by omega, all_range_succ hall hgood⟩, by omega, Wk.re (.cons rfl (.refl _) (.cons rfl (.refl _) (.cons rfl (.refl _) (.cons rfl (.refl _) .nil)))) (Reown.refl _) (fun _ h => by first | exact h | simp [h])⟩
  · skip
    simp [keysAV_length] at c1
    refine J.exit ?_
    refine thenQ.x ?_
    refine thenQ.x ?_
    refine blkQ.hit ?_
    refine thenQ.n ?_
    refine J.seq ?_
    refine J.region_lit ?_
    refine JL.q rfl rfl rfl (QW.assign .const) ?_
    refine JL.nil ?_
    refine thenQ.n ?_
    refine J.ret ?_
    exact ⟨_, selP [] _, _, RetEv.one rfl (REv.tmp rfl (.refl _)), rfl, sel_perm [] _, ⟨by rw [keysOk, show l.length = k by omega, hall], rfl⟩⟩

def bareOk : V → Bool
  | .mk k b t ks is => (k == 1 || k == 2 || b == 0) && (k == 3 || t == []) && (k == 5 || ks.length == 0) && (!(k == 0 || k == 1 || k == 2 || k == 3) || is.length == 0)

theorem bare_ok {fr : Bool} {v : V} {ys : List AV} (hv : Vc fr v ys) : Fn Try.prog 127 [.agg ys] (.c (.bool (bareOk v))) := by
  obtain ⟨k, b, t, ks, is⟩ := v
  subst hv
  refine AC.of_J Try.func127 rfl Try.ntmps127 rfl fun w0 A0 => ?_
  refine J.seq ?_
  refine J.region_lit ?_
  refine JL.box_agg (.tmp rfl) rfl fun b1 => ?_
  refine JL.q rfl rfl rfl (QW.assign .const) ?_
  refine JL.nil ?_
  refine thenQ.n ?_
  refine J.seq ?_
  refine J.region_lit ?_
  refine JL.q rfl rfl rfl (QW.field_ptr fo26_0 (.tmp rfl) rfl) ?_
  refine JL.q rfl rfl rfl (QW.load_box1 0 ty3 (.tmp rfl) rfl rfl) ?_
  refine JL.q rfl rfl rfl (QW.eql (.tmp rfl) .const) ?_
  refine JL.q rfl rfl rfl (QW.move (.tmp rfl)) ?_
  refine JL.g rfl rfl rfl rfl rfl (fun hg => (QW.field_ptr fo26_0 (.tmp rfl) rfl)) ?_
  refine JL.g rfl rfl rfl rfl rfl (fun hg => (QW.load_box1 0 ty3 (.when rfl hg) rfl rfl)) ?_
  refine JL.g rfl rfl rfl rfl rfl (fun hg => (QW.eql (.when rfl hg) .const)) ?_
  refine JL.q rfl rfl rfl (QW.pick_or (.tmp rfl) (.tmp rfl)) ?_
  refine JL.q rfl rfl rfl (QW.move (.tmp rfl)) ?_
  refine JL.g rfl rfl rfl rfl rfl (fun hg => (QW.field_ptr fo26_0 (.tmp rfl) rfl)) ?_
  refine JL.g rfl rfl rfl rfl rfl (fun hg => (QW.load_box1 0 ty3 (.when rfl hg) rfl rfl)) ?_
  refine JL.g rfl rfl rfl rfl rfl (fun hg => (QW.eql (.when rfl hg) .const)) ?_
  refine JL.q rfl rfl rfl (QW.pick_or (.tmp rfl) (.tmp rfl)) ?_
  refine JL.q rfl rfl rfl (QW.assign (.tmp rfl)) ?_
  refine JL.nil ?_
  refine thenQ.n ?_
  refine J.seq ?_
  refine J.block ?_
  refine J.seq ?_
  refine J.region_lit ?_
  refine JL.q rfl rfl rfl (QW.field_ptr fo26_0 (.tmp rfl) rfl) ?_
  refine JL.q rfl rfl rfl (QW.load_box1 0 ty3 (.tmp rfl) rfl rfl) ?_
  refine JL.q rfl rfl rfl (QW.neq (.tmp rfl) .const) ?_
  refine JL.q rfl rfl rfl (QW.move (.tmp rfl)) ?_
  refine JL.g rfl rfl rfl rfl rfl (fun hg => (QW.field_ptr fo26_0 (.tmp rfl) rfl)) ?_
  refine JL.g rfl rfl rfl rfl rfl (fun hg => (QW.load_box1 0 ty3 (.when rfl hg) rfl rfl)) ?_
  refine JL.g rfl rfl rfl rfl rfl (fun hg => (QW.neq (.when rfl hg) .const)) ?_
  refine JL.q rfl rfl rfl (QW.pick_and (.tmp rfl) (.tmp rfl)) ?_
  refine JL.q rfl rfl rfl (QW.move (.tmp rfl)) ?_
  refine JL.g rfl rfl rfl rfl rfl (fun hg => (QW.field_ptr fo26_1 (.tmp rfl) rfl)) ?_
  refine JL.g rfl rfl rfl rfl rfl (fun hg => (QW.load_box1 0 ty22 (.when rfl hg) rfl rfl)) ?_
  refine JL.g rfl rfl rfl rfl rfl (fun hg => (QW.neq (.when rfl hg) .const)) ?_
  refine JL.q rfl rfl rfl (QW.pick_and (.tmp rfl) (.tmp rfl)) ?_
  refine JL.q rfl rfl rfl (QW.assign (.tmp rfl)) ?_
  refine JL.nil ?_
  refine thenQ.n ?_
  refine J.cond (.tmp rfl) (fun c1 => ?_) (fun c1 => ?_)
  · skip
    refine J.skip ?_
    refine blkQ.n ?_
    refine thenQ.n ?_
    refine J.seq ?_
    refine J.region_lit ?_
    refine JL.q rfl rfl rfl (QW.assign .const) ?_
    refine JL.nil ?_
    refine thenQ.n ?_
    refine J.ret ?_
    exact ⟨_, selP [.k] _, _, RetEv.one rfl (REv.tmp rfl (.refl _)), rfl, sel_perm [.k] _, ⟨by simp only [bareOk]; congr 2; simp [V.css_length, keysAV_length] at *; grind, rfl⟩⟩
  · skip
    refine J.seq ?_
    refine J.region_lit ?_
    refine JL.q rfl rfl rfl (QW.field_ptr fo26_0 (.tmp rfl) rfl) ?_
    refine JL.q rfl rfl rfl (QW.load_box1 0 ty3 (.tmp rfl) rfl rfl) ?_
    refine JL.q rfl rfl rfl (QW.neq (.tmp rfl) .const) ?_
    refine JL.q rfl rfl rfl (QW.move (.tmp rfl)) ?_
    refine JL.g rfl rfl rfl rfl rfl (fun hg => (QW.field_ptr fo26_2 (.tmp rfl) rfl)) ?_
    refine JL.g rfl rfl rfl rfl rfl (fun hg => (QW.load_box1 0 ty9 (.when rfl hg) rfl rfl)) ?_
    refine JL.g rfl rfl rfl rfl rfl (fun hg => (QW.neq_s (.when rfl hg) .const)) ?_
    refine JL.q rfl rfl rfl (QW.pick_and (.tmp rfl) (.tmp rfl)) ?_
    refine JL.q rfl rfl rfl (QW.assign (.tmp rfl)) ?_
    refine JL.nil ?_
    refine thenQ.n ?_
    refine J.cond (.tmp rfl) (fun c2 => ?_) (fun c2 => ?_)
    · skip
      refine J.skip ?_
      refine blkQ.n ?_
      refine thenQ.n ?_
      refine J.seq ?_
      refine J.region_lit ?_
      refine JL.q rfl rfl rfl (QW.assign .const) ?_
      refine JL.nil ?_
      refine thenQ.n ?_
      refine J.ret ?_
      exact ⟨_, selP [.k] _, _, RetEv.one rfl (REv.tmp rfl (.refl _)), rfl, sel_perm [.k] _, ⟨by simp only [bareOk]; congr 2; simp [V.css_length, keysAV_length] at *; grind, rfl⟩⟩
    · skip
      refine J.seq ?_
      refine J.region_lit ?_
      refine JL.q rfl rfl rfl (QW.field_ptr fo26_0 (.tmp rfl) rfl) ?_
      refine JL.q rfl rfl rfl (QW.load_box1 0 ty3 (.tmp rfl) rfl rfl) ?_
      refine JL.q rfl rfl rfl (QW.neq (.tmp rfl) .const) ?_
      refine JL.q rfl rfl rfl (QW.move (.tmp rfl)) ?_
      refine JL.g rfl rfl rfl rfl rfl (fun hg => (QW.field_ptr fo26_3 (.tmp rfl) rfl)) ?_
      refine JL.g rfl rfl rfl rfl rfl (fun hg => (QW.load_box1 0 ty23 (.when rfl hg) rfl rfl)) ?_
      refine JL.g rfl rfl rfl rfl rfl (fun hg => (by first | exact QW.len_sl sl23 (.when rfl hg) | exact QW.len_nil sl23 (.when rfl hg))) ?_
      refine JL.g rfl rfl rfl rfl rfl (fun hg => (QW.gtr (.when rfl hg) .const)) ?_
      refine JL.q rfl rfl rfl (QW.pick_and (.tmp rfl) (.tmp rfl)) ?_
      refine JL.q rfl rfl rfl (QW.assign (.tmp rfl)) ?_
      refine JL.nil ?_
      refine thenQ.n ?_
      refine J.cond (.tmp rfl) (fun c3 => ?_) (fun c3 => ?_)
      · skip
        refine J.skip ?_
        refine blkQ.n ?_
        refine thenQ.n ?_
        refine J.seq ?_
        refine J.region_lit ?_
        refine JL.q rfl rfl rfl (QW.assign .const) ?_
        refine JL.nil ?_
        refine thenQ.n ?_
        refine J.ret ?_
        exact ⟨_, selP [.k] _, _, RetEv.one rfl (REv.tmp rfl (.refl _)), rfl, sel_perm [.k] _, ⟨by simp only [bareOk]; congr 2; simp [V.css_length, keysAV_length] at *; grind, rfl⟩⟩
      · skip
        refine J.seq ?_
        refine J.region_lit ?_
        refine JL.q rfl rfl rfl (QW.move (.tmp rfl)) ?_
        refine JL.q rfl rfl rfl (QW.move (.tmp rfl)) ?_
        refine JL.g rfl rfl rfl rfl rfl (fun hg => (QW.field_ptr fo26_0 (.tmp rfl) rfl)) ?_
        refine JL.g rfl rfl rfl rfl rfl (fun hg => (QW.load_box1 0 ty3 (.when rfl hg) rfl rfl)) ?_
        refine JL.g rfl rfl rfl rfl rfl (fun hg => (QW.eql (.when rfl hg) .const)) ?_
        refine JL.q rfl rfl rfl (QW.pick_or (.tmp rfl) (.tmp rfl)) ?_
        refine JL.q rfl rfl rfl (QW.move (.tmp rfl)) ?_
        refine JL.g rfl rfl rfl rfl rfl (fun hg => (QW.field_ptr fo26_4 (.tmp rfl) rfl)) ?_
        refine JL.g rfl rfl rfl rfl rfl (fun hg => (QW.load_box1 0 ty24 (.when rfl hg) rfl rfl)) ?_
        refine JL.g rfl rfl rfl rfl rfl (fun hg => (by first | exact QW.len_sl sl24 (.when rfl hg) | exact QW.len_nil sl24 (.when rfl hg))) ?_
        refine JL.g rfl rfl rfl rfl rfl (fun hg => (QW.gtr (.when rfl hg) .const)) ?_
        refine JL.q rfl rfl rfl (QW.pick_and (.tmp rfl) (.tmp rfl)) ?_
        refine JL.q rfl rfl rfl (QW.assign (.tmp rfl)) ?_
        refine JL.nil ?_
        refine thenQ.n ?_
        refine J.cond (.tmp rfl) (fun c4 => ?_) (fun c4 => ?_)
        · skip
          refine J.skip ?_
          refine blkQ.n ?_
          refine thenQ.n ?_
          refine J.seq ?_
          refine J.region_lit ?_
          refine JL.q rfl rfl rfl (QW.assign .const) ?_
          refine JL.nil ?_
          refine thenQ.n ?_
          refine J.ret ?_
          exact ⟨_, selP [.k] _, _, RetEv.one rfl (REv.tmp rfl (.refl _)), rfl, sel_perm [.k] _, ⟨by simp only [bareOk]; congr 2; simp [V.css_length, keysAV_length] at *; grind, rfl⟩⟩
        · skip
          refine J.seq ?_
          refine J.region_lit ?_
          refine JL.q rfl rfl rfl (QW.assign .const) ?_
          refine JL.nil ?_
          refine thenQ.n ?_
          refine J.ret ?_
          refine blkQ.r ?_
          refine thenQ.r ?_
          exact ⟨_, selP [.k] _, _, RetEv.one rfl (REv.tmp rfl (.refl _)), rfl, sel_perm [.k] _, ⟨by simp only [bareOk]; congr 2; simp [V.css_length, keysAV_length] at *; grind, rfl⟩⟩

theorem part_ok {fr : Bool} {v : V} {ys : List AV} (hv : Vc fr v ys) (hw : v.wf) : Fn Try.prog 105 [.agg ys] (.c (.bool (partOk v))) := by
  obtain ⟨k, b, t, ks, is⟩ := v
  subst hv
  obtain ⟨-, -, -, hk16, -, -, -⟩ := hw.inv
  refine AC.of_J Try.func105 rfl Try.ntmps105 rfl fun w0 A0 => ?_
  refine J.seq ?_
  refine J.region_lit ?_
  refine JL.box_agg (.tmp rfl) rfl fun b1 => ?_
  refine JL.q rfl rfl rfl (QW.assign .const) ?_
  refine JL.nil ?_
  refine thenQ.n ?_
  refine J.seq ?_
  refine J.seq ?_
  refine J.region_lit ?_
  refine JL.q rfl rfl rfl (by first | exact QW.load_box 0 ty26 (.tmp rfl) rfl rfl rfl | exact QW.load_box 0 ty26 (.tmp rfl) rfl (take_at (V.cs_length _ _) rfl) (V.cs_length _ _)) ?_
  refine JL.q rfl rfl rfl (QW.call gofn127 (.cons (.tmp rfl) .nil) (bare_ok Vc.mk)) ?_
  refine JL.q rfl rfl rfl (QW.not (.tmp rfl)) ?_
  refine JL.q rfl rfl rfl (QW.move (.tmp rfl)) ?_
  refine JL.g rfl rfl rfl rfl rfl (fun hg => (QW.field_ptr fo26_4 (.tmp rfl) rfl)) ?_
  refine JL.g rfl rfl rfl rfl rfl (fun hg => (QW.load_box1 0 ty24 (.when rfl hg) rfl rfl)) ?_
  refine JL.g rfl rfl rfl rfl rfl (fun hg => (by first | exact QW.len_sl sl24 (.when rfl hg) | exact QW.len_nil sl24 (.when rfl hg))) ?_
  refine JL.g rfl rfl rfl rfl rfl (fun hg => (QW.gtr (.when rfl hg) .const)) ?_
  refine JL.q rfl rfl rfl (QW.pick_or (.tmp rfl) (.tmp rfl)) ?_
  refine JL.nil ?_
  refine thenQ.n ?_
  refine J.cond (.tmp rfl) (fun c1 => ?_) (fun c1 => ?_)
  · skip
    refine J.seq ?_
    refine J.region_lit ?_
    refine JL.q rfl rfl rfl (QW.assign .const) ?_
    refine JL.nil ?_
    refine thenQ.n ?_
    refine J.ret ?_
    refine thenQ.r ?_
    exact ⟨_, selP [.k] _, _, RetEv.one rfl (REv.tmp rfl (.refl _)), rfl, sel_perm [.k] _, ⟨by simp only [partOk]; congr 2; simp [V.css_length, keysAV_length, bareOk] at *; grind, rfl⟩⟩
  · skip
    refine J.skip ?_
    refine thenQ.n ?_
    refine J.seq ?_
    refine J.seq ?_
    refine J.region_lit ?_
    refine JL.q rfl rfl rfl (QW.field_ptr fo26_0 (.tmp rfl) rfl) ?_
    refine JL.q rfl rfl rfl (QW.load_box1 0 ty3 (.tmp rfl) rfl rfl) ?_
    refine JL.nil ?_
    refine thenQ.n ?_
    refine J.block ?_
    refine J.seq ?_
    refine J.seq ?_
    refine J.region_lit ?_
    refine JL.q rfl rfl rfl (QW.eql (.tmp rfl) .const) ?_
    refine JL.q rfl rfl rfl (QW.assign (.tmp rfl)) ?_
    refine JL.nil ?_
    refine thenQ.n ?_
    refine J.cond (.tmp rfl) (fun c2 => ?_) (fun c2 => ?_)
    · skip
      refine J.skip ?_
      refine thenQ.n ?_
      refine J.cond (.tmp rfl) (fun c3 => ?_) (fun c3 => ?_)
      · skip
        refine J.seq ?_
        refine J.region_lit ?_
        refine JL.q rfl rfl rfl (QW.assign .const) ?_
        refine JL.nil ?_
        refine thenQ.n ?_
        refine J.ret ?_
        refine blkQ.r ?_
        refine thenQ.r ?_
        exact ⟨_, selP [.k] _, _, RetEv.one rfl (REv.tmp rfl (.refl _)), rfl, sel_perm [.k] _, ⟨by simp only [partOk]; congr 2; simp [V.css_length, keysAV_length, bareOk] at *; grind, rfl⟩⟩
      · skip
        refine J.seq ?_
        refine J.region_lit ?_
        refine JL.q rfl rfl rfl (QW.eql (.tmp rfl) .const) ?_
        refine JL.q rfl rfl rfl (QW.assign (.tmp rfl)) ?_
        refine JL.nil ?_
        refine thenQ.n ?_
        refine J.cond (.tmp rfl) (fun c4 => ?_) (fun c4 => ?_)
        · skip
          refine J.seq ?_
          refine J.region_lit ?_
          refine JL.q rfl rfl rfl (QW.field_ptr fo26_1 (.tmp rfl) rfl) ?_
          refine JL.q rfl rfl rfl (QW.load_box1 0 ty22 (.tmp rfl) rfl rfl) ?_
          refine JL.q rfl rfl rfl (QW.leq (.tmp rfl) .const) ?_
          refine JL.q rfl rfl rfl (QW.assign (.tmp rfl)) ?_
          refine JL.nil ?_
          refine thenQ.n ?_
          refine J.ret ?_
          refine blkQ.r ?_
          refine thenQ.r ?_
          exact ⟨_, selP [.k] _, _, RetEv.one rfl (REv.tmp rfl (.refl _)), rfl, sel_perm [.k] _, ⟨by simp only [partOk]; congr 2; simp [V.css_length, keysAV_length, bareOk] at *; grind, rfl⟩⟩
        · skip
          refine J.seq ?_
          refine J.region_lit ?_
          refine JL.q rfl rfl rfl (QW.eql (.tmp rfl) .const) ?_
          refine JL.q rfl rfl rfl (QW.assign (.tmp rfl)) ?_
          refine JL.nil ?_
          refine thenQ.n ?_
          refine J.cond (.tmp rfl) (fun c5 => ?_) (fun c5 => ?_)
          · skip
            refine J.seq ?_
            refine J.region_tailK 5 mixed (by kernel_rfl) (by kernel_rfl) (by kernel_rfl) rfl ?_
            refine .cons [] rfl rfl rfl (.q rfl (QW.field_ptr fo26_1 (.tmp rfl) rfl)) ?_
            refine .cons [24] rfl rfl rfl (.q rfl (QW.load_box1 0 ty22 (.tmp rfl) rfl rfl)) ?_
            refine .cons [25] rfl rfl rfl (.q rfl (QW.call gofn128 (.cons (.tmp rfl) .nil) (canon_ok _))) ?_
            refine .cons [] rfl rfl rfl (.q rfl (QW.field_ptr fo26_1 (.tmp rfl) rfl)) ?_
            refine .cons [27] rfl rfl rfl (.q rfl (QW.load_box1 0 ty22 (.tmp rfl) rfl rfl)) ?_
            refine .nil ?_
            refine JL.q rfl rfl rfl (QW.eql (.tmp rfl) (.tmp rfl)) ?_
            refine JL.q rfl rfl rfl (QW.assign (.tmp rfl)) ?_
            refine JL.nil ?_
            refine thenQ.n ?_
            refine J.ret ?_
            refine blkQ.r ?_
            refine thenQ.r ?_
            exact ⟨_, selP [.k] _, _, RetEv.one rfl (REv.tmp rfl (.refl _)), rfl, sel_perm [.k] _, ⟨by simp only [partOk]; congr 2; simp [V.css_length, keysAV_length, bareOk] at *; grind, rfl⟩⟩
          · skip
            refine J.seq ?_
            refine J.region_lit ?_
            refine JL.q rfl rfl rfl (QW.eql (.tmp rfl) .const) ?_
            refine JL.q rfl rfl rfl (QW.assign (.tmp rfl)) ?_
            refine JL.nil ?_
            refine thenQ.n ?_
            refine J.cond (.tmp rfl) (fun c6 => ?_) (fun c6 => ?_)
            · skip
              refine J.seq ?_
              refine J.region_lit ?_
              refine JL.q rfl rfl rfl (QW.field_ptr fo26_2 (.tmp rfl) rfl) ?_
              refine JL.q rfl rfl rfl (QW.load_box1 0 ty9 (.tmp rfl) rfl rfl) ?_
              refine JL.q rfl rfl rfl (QW.len_s st9 (.tmp rfl)) ?_
              refine JL.q rfl rfl rfl (QW.leq (.tmp rfl) .const) ?_
              refine JL.q rfl rfl rfl (QW.assign (.tmp rfl)) ?_
              refine JL.nil ?_
              refine thenQ.n ?_
              refine J.ret ?_
              refine blkQ.r ?_
              refine thenQ.r ?_
              exact ⟨_, selP [.k] _, _, RetEv.one rfl (REv.tmp rfl (.refl _)), rfl, sel_perm [.k] _, ⟨by simp only [partOk]; congr 2; simp [V.css_length, keysAV_length, bareOk] at *; grind, rfl⟩⟩
            · skip
              refine J.seq ?_
              refine J.region_lit ?_
              refine JL.q rfl rfl rfl (QW.eql (.tmp rfl) .const) ?_
              refine JL.q rfl rfl rfl (QW.assign (.tmp rfl)) ?_
              refine JL.nil ?_
              refine thenQ.n ?_
              refine J.cond (.tmp rfl) (fun c7 => ?_) (fun c7 => ?_)
              · skip
                refine J.seq ?_
                refine J.region_lit ?_
                refine JL.q rfl rfl rfl (QW.field_ptr fo26_3 (.tmp rfl) rfl) ?_
                refine JL.q rfl rfl rfl (QW.load_box1 0 ty23 (.tmp rfl) rfl rfl) ?_
                refine JL.q rfl rfl rfl (by first | exact QW.len_sl sl23 (.tmp rfl) | exact QW.len_nil sl23 (.tmp rfl)) ?_
                refine JL.q rfl rfl rfl (QW.field_ptr fo26_4 (.tmp rfl) rfl) ?_
                refine JL.q rfl rfl rfl (QW.load_box1 0 ty24 (.tmp rfl) rfl rfl) ?_
                refine JL.q rfl rfl rfl (by first | exact QW.len_sl sl24 (.tmp rfl) | exact QW.len_nil sl24 (.tmp rfl)) ?_
                refine JL.q rfl rfl rfl (QW.eql (.tmp rfl) (.tmp rfl)) ?_
                refine JL.q rfl rfl rfl (QW.move (.tmp rfl)) ?_
                refine JL.g rfl rfl rfl rfl rfl (fun hg => (QW.field_ptr fo26_3 (.tmp rfl) rfl)) ?_
                refine JL.g rfl rfl rfl rfl rfl (fun hg => (QW.load_box1 0 ty23 (.when rfl hg) rfl rfl)) ?_
                refine JL.g rfl rfl rfl rfl rfl (fun hg => (QW.call gofn129 (.cons (.when rfl hg) .nil) (keys_ok _ _ (by unfold reach at *; omega)))) ?_
                refine JL.q rfl rfl rfl (QW.pick_and (.tmp rfl) (.tmp rfl)) ?_
                refine JL.q rfl rfl rfl (QW.assign (.tmp rfl)) ?_
                refine JL.nil ?_
                refine thenQ.n ?_
                refine J.ret ?_
                refine blkQ.r ?_
                refine thenQ.r ?_
                exact ⟨_, selP [.k] _, _, RetEv.one rfl (REv.tmp rfl (.refl _)), rfl, sel_perm [.k] _, ⟨by simp only [partOk]; congr 2; simp [V.css_length, keysAV_length, bareOk] at *; grind, rfl⟩⟩
              · skip
                refine J.skip ?_
                refine blkQ.n ?_
                refine thenQ.n ?_
                refine J.seq ?_
                refine J.region_lit ?_
                refine JL.q rfl rfl rfl (QW.assign .const) ?_
                refine JL.nil ?_
                refine thenQ.n ?_
                refine J.ret ?_
                exact ⟨_, selP [.k] _, _, RetEv.one rfl (REv.tmp rfl (.refl _)), rfl, sel_perm [.k] _, ⟨by simp only [partOk]; congr 2; simp [V.css_length, keysAV_length, bareOk] at *; grind, rfl⟩⟩
    · skip
      refine J.region_lit ?_
      refine JL.q rfl rfl rfl (QW.eql (.tmp rfl) .const) ?_
      refine JL.q rfl rfl rfl (QW.assign (.tmp rfl)) ?_
      refine JL.nil ?_
      refine thenQ.n ?_
      refine J.cond (.tmp rfl) (fun c3 => ?_) (fun c3 => ?_)
      · skip
        refine J.seq ?_
        refine J.region_lit ?_
        refine JL.q rfl rfl rfl (QW.assign .const) ?_
        refine JL.nil ?_
        refine thenQ.n ?_
        refine J.ret ?_
        refine blkQ.r ?_
        refine thenQ.r ?_
        exact ⟨_, selP [.k] _, _, RetEv.one rfl (REv.tmp rfl (.refl _)), rfl, sel_perm [.k] _, ⟨by simp only [partOk]; congr 2; simp [V.css_length, keysAV_length, bareOk] at *; grind, rfl⟩⟩
      · skip
        refine J.seq ?_
        refine J.region_lit ?_
        refine JL.q rfl rfl rfl (QW.eql (.tmp rfl) .const) ?_
        refine JL.q rfl rfl rfl (QW.assign (.tmp rfl)) ?_
        refine JL.nil ?_
        refine thenQ.n ?_
        refine J.cond (.tmp rfl) (fun c4 => ?_) (fun c4 => ?_)
        · skip
          refine J.seq ?_
          refine J.region_lit ?_
          refine JL.q rfl rfl rfl (QW.field_ptr fo26_1 (.tmp rfl) rfl) ?_
          refine JL.q rfl rfl rfl (QW.load_box1 0 ty22 (.tmp rfl) rfl rfl) ?_
          refine JL.q rfl rfl rfl (QW.leq (.tmp rfl) .const) ?_
          refine JL.q rfl rfl rfl (QW.assign (.tmp rfl)) ?_
          refine JL.nil ?_
          refine thenQ.n ?_
          refine J.ret ?_
          refine blkQ.r ?_
          refine thenQ.r ?_
          exact ⟨_, selP [.k] _, _, RetEv.one rfl (REv.tmp rfl (.refl _)), rfl, sel_perm [.k] _, ⟨by simp only [partOk]; congr 2; simp [V.css_length, keysAV_length, bareOk] at *; grind, rfl⟩⟩
        · skip
          refine J.seq ?_
          refine J.region_lit ?_
          refine JL.q rfl rfl rfl (QW.eql (.tmp rfl) .const) ?_
          refine JL.q rfl rfl rfl (QW.assign (.tmp rfl)) ?_
          refine JL.nil ?_
          refine thenQ.n ?_
          refine J.cond (.tmp rfl) (fun c5 => ?_) (fun c5 => ?_)
          · skip
            refine J.seq ?_
            refine J.region_tailK 5 mixed (by kernel_rfl) (by kernel_rfl) (by kernel_rfl) rfl ?_
            refine .cons [] rfl rfl rfl (.q rfl (QW.field_ptr fo26_1 (.tmp rfl) rfl)) ?_
            refine .cons [24] rfl rfl rfl (.q rfl (QW.load_box1 0 ty22 (.tmp rfl) rfl rfl)) ?_
            refine .cons [25] rfl rfl rfl (.q rfl (QW.call gofn128 (.cons (.tmp rfl) .nil) (canon_ok _))) ?_
            refine .cons [] rfl rfl rfl (.q rfl (QW.field_ptr fo26_1 (.tmp rfl) rfl)) ?_
            refine .cons [27] rfl rfl rfl (.q rfl (QW.load_box1 0 ty22 (.tmp rfl) rfl rfl)) ?_
            refine .nil ?_
            refine JL.q rfl rfl rfl (QW.eql (.tmp rfl) (.tmp rfl)) ?_
            refine JL.q rfl rfl rfl (QW.assign (.tmp rfl)) ?_
            refine JL.nil ?_
            refine thenQ.n ?_
            refine J.ret ?_
            refine blkQ.r ?_
            refine thenQ.r ?_
            exact ⟨_, selP [.k] _, _, RetEv.one rfl (REv.tmp rfl (.refl _)), rfl, sel_perm [.k] _, ⟨by simp only [partOk]; congr 2; simp [V.css_length, keysAV_length, bareOk] at *; grind, rfl⟩⟩
          · skip
            refine J.seq ?_
            refine J.region_lit ?_
            refine JL.q rfl rfl rfl (QW.eql (.tmp rfl) .const) ?_
            refine JL.q rfl rfl rfl (QW.assign (.tmp rfl)) ?_
            refine JL.nil ?_
            refine thenQ.n ?_
            refine J.cond (.tmp rfl) (fun c6 => ?_) (fun c6 => ?_)
            · skip
              refine J.seq ?_
              refine J.region_lit ?_
              refine JL.q rfl rfl rfl (QW.field_ptr fo26_2 (.tmp rfl) rfl) ?_
              refine JL.q rfl rfl rfl (QW.load_box1 0 ty9 (.tmp rfl) rfl rfl) ?_
              refine JL.q rfl rfl rfl (QW.len_s st9 (.tmp rfl)) ?_
              refine JL.q rfl rfl rfl (QW.leq (.tmp rfl) .const) ?_
              refine JL.q rfl rfl rfl (QW.assign (.tmp rfl)) ?_
              refine JL.nil ?_
              refine thenQ.n ?_
              refine J.ret ?_
              refine blkQ.r ?_
              refine thenQ.r ?_
              exact ⟨_, selP [.k] _, _, RetEv.one rfl (REv.tmp rfl (.refl _)), rfl, sel_perm [.k] _, ⟨by simp only [partOk]; congr 2; simp [V.css_length, keysAV_length, bareOk] at *; grind, rfl⟩⟩
            · skip
              refine J.seq ?_
              refine J.region_lit ?_
              refine JL.q rfl rfl rfl (QW.eql (.tmp rfl) .const) ?_
              refine JL.q rfl rfl rfl (QW.assign (.tmp rfl)) ?_
              refine JL.nil ?_
              refine thenQ.n ?_
              refine J.cond (.tmp rfl) (fun c7 => ?_) (fun c7 => ?_)
              · skip
                refine J.seq ?_
                refine J.region_lit ?_
                refine JL.q rfl rfl rfl (QW.field_ptr fo26_3 (.tmp rfl) rfl) ?_
                refine JL.q rfl rfl rfl (QW.load_box1 0 ty23 (.tmp rfl) rfl rfl) ?_
                refine JL.q rfl rfl rfl (by first | exact QW.len_sl sl23 (.tmp rfl) | exact QW.len_nil sl23 (.tmp rfl)) ?_
                refine JL.q rfl rfl rfl (QW.field_ptr fo26_4 (.tmp rfl) rfl) ?_
                refine JL.q rfl rfl rfl (QW.load_box1 0 ty24 (.tmp rfl) rfl rfl) ?_
                refine JL.q rfl rfl rfl (by first | exact QW.len_sl sl24 (.tmp rfl) | exact QW.len_nil sl24 (.tmp rfl)) ?_
                refine JL.q rfl rfl rfl (QW.eql (.tmp rfl) (.tmp rfl)) ?_
                refine JL.q rfl rfl rfl (QW.move (.tmp rfl)) ?_
                refine JL.g rfl rfl rfl rfl rfl (fun hg => (QW.field_ptr fo26_3 (.tmp rfl) rfl)) ?_
                refine JL.g rfl rfl rfl rfl rfl (fun hg => (QW.load_box1 0 ty23 (.when rfl hg) rfl rfl)) ?_
                refine JL.g rfl rfl rfl rfl rfl (fun hg => (QW.call gofn129 (.cons (.when rfl hg) .nil) (keys_ok _ _ (by unfold reach at *; omega)))) ?_
                refine JL.q rfl rfl rfl (QW.pick_and (.tmp rfl) (.tmp rfl)) ?_
                refine JL.q rfl rfl rfl (QW.assign (.tmp rfl)) ?_
                refine JL.nil ?_
                refine thenQ.n ?_
                refine J.ret ?_
                refine blkQ.r ?_
                refine thenQ.r ?_
                exact ⟨_, selP [.k] _, _, RetEv.one rfl (REv.tmp rfl (.refl _)), rfl, sel_perm [.k] _, ⟨by simp only [partOk]; congr 2; simp [V.css_length, keysAV_length, bareOk] at *; grind, rfl⟩⟩
              · skip
                refine J.skip ?_
                refine blkQ.n ?_
                refine thenQ.n ?_
                refine J.seq ?_
                refine J.region_lit ?_
                refine JL.q rfl rfl rfl (QW.assign .const) ?_
                refine JL.nil ?_
                refine thenQ.n ?_
                refine J.ret ?_
                exact ⟨_, selP [.k] _, _, RetEv.one rfl (REv.tmp rfl (.refl _)), rfl, sel_perm [.k] _, ⟨by simp only [partOk]; congr 2; simp [V.css_length, keysAV_length, bareOk] at *; grind, rfl⟩⟩

end Go.Proofs.Ytkiankpmkglhcaa.J
