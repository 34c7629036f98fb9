/- Values as plain data: their cells, what the page says of them. -/
import Derived.Test.YtkiankpmkglhcaaJ18
import Derived.Test.YtkiankpmkglhcaaF0
namespace Go.Proofs.Ytkiankpmkglhcaa.J
open Go Go.RowKit
set_option linter.unusedVariables false
set_option linter.unusedSimpArgs false

abbrev Str := List UInt8

inductive V where
  | mk (kind : Int) (bits : Nat) (text : Str) (keys : List Str) (items : List V)

def V.kind : V → Int | .mk k _ _ _ _ => k
def V.bits : V → Nat | .mk _ b _ _ _ => b
def V.text : V → Str | .mk _ _ t _ _ => t
def V.keys : V → List Str | .mk _ _ _ l _ => l
def V.items : V → List V | .mk _ _ _ _ l => l
def V.nil : V := .mk 0 0 [] [] []

def eStr : ETy := ⟨1, 16⟩
def eV : ETy := ⟨5, 80⟩
def eU8 : ETy := ⟨1, 1⟩

def keysAV (ks : List Str) : List (List AV) := ks.map fun s => [.c (str s)]

mutual
/-- The cells of a value. -/
def V.cs (fr : Bool) : V → List AV
  | .mk k b t ks is => [.c (.int .i64 k), .c (.int .u64 (b : Int)), .c (str t), .sl fr false eStr (keysAV ks), .sl fr false eV (V.css fr is)]
def V.css (fr : Bool) : List V → List (List AV)
  | [] => []
  | v :: r => v.cs fr :: V.css fr r
end

theorem V.css_eq (fr : Bool) : ∀ is, V.css fr is = is.map (V.cs fr)
  | [] => rfl
  | v :: r => by simp [V.css, V.css_eq fr r]
theorem V.css_length (fr : Bool) (is : List V) : (V.css fr is).length = is.length := by simp [V.css_eq]
theorem V.css_get (fr : Bool) {is : List V} {i : Nat} {v : V} (h : is[i]? = some v) : (V.css fr is)[i]? = some (v.cs fr) := by simp [V.css_eq, h]
theorem V.css_getE (fr : Bool) {is : List V} {i : Nat} (h : i < is.length) : (V.css fr is)[i]? = some ((is[i]).cs fr) := V.css_get fr (List.getElem?_eq_getElem h)
theorem V.css_append (fr : Bool) (a b : List V) : V.css fr (a ++ b) = V.css fr a ++ V.css fr b := by simp [V.css_eq]
theorem V.css_take (fr : Bool) (a : List V) (k : Nat) : V.css fr (a.take k) = (V.css fr a).take k := by simp [V.css_eq, List.map_take]
theorem V.css_drop (fr : Bool) (a : List V) (k : Nat) : V.css fr (a.drop k) = (V.css fr a).drop k := by simp [V.css_eq, List.map_drop]
theorem V.cs_length (fr : Bool) (v : V) : (v.cs fr).length = 5 := by cases v; rfl
theorem V.css_sz (fr : Bool) (is : List V) : ∀ x ∈ V.css fr is, x.length = eV.sz := by
  intro x hx
  rw [V.css_eq] at hx
  obtain ⟨v, _, rfl⟩ := List.mem_map.1 hx
  exact V.cs_length fr v
theorem keysAV_length (ks : List Str) : (keysAV ks).length = ks.length := by simp [keysAV]
theorem keysAV_get {ks : List Str} {i : Nat} {s : Str} (h : ks[i]? = some s) : (keysAV ks)[i]? = some [.c (str s)] := by simp [keysAV, h]
theorem keysAV_getE {ks : List Str} {i : Nat} (h : i < ks.length) : (keysAV ks)[i]? = some [.c (str ks[i])] := keysAV_get (List.getElem?_eq_getElem h)
theorem keysAV_sz (ks : List Str) : ∀ x ∈ keysAV ks, x.length = eStr.sz := by
  intro x hx
  obtain ⟨v, _, rfl⟩ := List.mem_map.1 hx
  rfl
theorem keysAV_append (a b : List Str) : keysAV (a ++ b) = keysAV a ++ keysAV b := by simp [keysAV]
theorem keysAV_flat (ks : List Str) : (keysAV ks).flatten = (ks.map str).map AV.c := by rw [keysAV, flatten_one, List.map_map]; rfl

/-- These cells are the value's. -/
def Vc (fr : Bool) (v : V) (ys : List AV) : Prop := ys = v.cs fr
theorem Vc.self {fr : Bool} {v : V} : Vc fr v (v.cs fr) := rfl
theorem Vc.mk {fr : Bool} {k : Int} {b : Nat} {t : Str} {ks : List Str} {is : List V} : Vc fr (.mk k b t ks is) [.c (.int .i64 k), .c (.int .u64 (b : Int)), .c (str t), .sl fr false eStr (keysAV ks), .sl fr false eV (V.css fr is)] := rfl
theorem Vc.nil {fr : Bool} : Vc fr V.nil [.c (.int .i64 0), .c (.int .u64 0), .c (str []), .sl fr false eStr [], .sl fr false eV []] := rfl

theorem FlL.flat {p : Bool → Prop} : ∀ {xs : List (List AV)}, (∀ x ∈ xs, FlL p x) → FlL p xs.flatten
  | [], _ => .nil
  | x :: xs, h => by
    rw [List.flatten_cons]
    exact FlL.append (h x (by simp)) (FlL.flat fun y hy => h y (by simp [hy]))
theorem keys_fl {p : Bool → Prop} (ks : List Str) : FlL p (keysAV ks).flatten := by rw [keysAV_flat]; exact FlL.c _
mutual
theorem V.cs_fl (fr : Bool) : ∀ v : V, FlL (· = fr) (v.cs fr)
  | .mk k b t ks is => .cons (.c _) (.cons (.c _) (.cons (.c _) (.cons (.sl rfl (keys_fl ks)) (.cons (.sl rfl (V.css_fl fr is)) .nil))))
theorem V.css_fl (fr : Bool) : ∀ l : List V, FlL (· = fr) (V.css fr l).flatten
  | [] => .nil
  | v :: r => by
    simp only [V.css, List.flatten_cons]
    exact FlL.append (V.cs_fl fr v) (V.css_fl fr r)
end
theorem V.fresh (v : V) : Fresh (.agg (v.cs true)) := .agg (V.cs_fl true v)
theorem Vc.fresh {v : V} {ys : List AV} (h : Vc true v ys) : Fresh (.agg ys) := by rw [h]; exact V.fresh v

theorem LeL.append {F : List (Value × AV)} {a b c d : List AV} (h : LeL F a b) (k : LeL F c d) : LeL F (a ++ c) (b ++ d) := by
  induction h with
  | nil => exact k
  | cons h _ ih => exact .cons h ih
theorem Le.slL {F : List (Value × AV)} {fr fr' clip : Bool} {e : ETy} {xs ys : List (List AV)} (hf : fr' = true → fr = true) (hl : xs.length = ys.length) (hs : ∀ y ∈ ys, y.length = e.sz) (h : LeL F xs.flatten ys.flatten) : Le F (.sl fr clip e xs) (.sl fr' false e ys) :=
  .sl hf (fun h => by cases h) hl hs h.get.2 h.get.1
theorem keys_le {F : List (Value × AV)} (fr fr' : Bool) (hf : fr' = true → fr = true) (ks : List Str) : Le F (.sl fr false eStr (keysAV ks)) (.sl fr' false eStr (keysAV ks)) := .slL hf rfl (keysAV_sz ks) (.refl _)
mutual
theorem V.cs_le {F : List (Value × AV)} (fr fr' : Bool) (hf : fr' = true → fr = true) : ∀ v : V, LeL F (v.cs fr) (v.cs fr')
  | .mk k b t ks is => .cons (.refl _) (.cons (.refl _) (.cons (.refl _) (.cons (keys_le fr fr' hf ks) (.cons (.slL hf (by rw [V.css_length, V.css_length]) (V.css_sz fr' is) (V.css_le fr fr' hf is)) .nil))))
theorem V.css_le {F : List (Value × AV)} (fr fr' : Bool) (hf : fr' = true → fr = true) : ∀ l : List V, LeL F (V.css fr l).flatten (V.css fr' l).flatten
  | [] => .nil
  | v :: r => by
    simp only [V.css, List.flatten_cons]
    exact LeL.append (V.cs_le fr fr' hf v) (V.css_le fr fr' hf r)
end
theorem items_le {F : List (Value × AV)} (fr fr' : Bool) (hf : fr' = true → fr = true) (is : List V) : Le F (.sl fr false eV (V.css fr is)) (.sl fr' false eV (V.css fr' is)) :=
  .slL hf (by rw [V.css_length, V.css_length]) (V.css_sz fr' is) (V.css_le fr fr' hf is)

mutual
def V.sz : V → Nat
  | .mk _ _ _ _ is => 1 + V.szs is
def V.szs : List V → Nat
  | [] => 0
  | x :: r => x.sz + V.szs r
end
theorem V.sz_pos (v : V) : 1 ≤ v.sz := by cases v; unfold V.sz; omega
theorem V.szs_mem : ∀ {is : List V} {x : V}, x ∈ is → x.sz ≤ V.szs is
  | y :: r, x, h => by
    unfold V.szs
    rcases List.mem_cons.1 h with rfl | h
    · omega
    · have := V.szs_mem h; omega
theorem V.sz_get {k : Int} {b : Nat} {t : Str} {ks : List Str} {is : List V} {j n : Nat} (h : (V.mk k b t ks is).sz ≤ n + 1) (hj : j < is.length) : is[j].sz ≤ n := by
  have := V.szs_mem (List.getElem_mem hj)
  unfold V.sz at h; omega
/-- What fits a machine. -/
inductive V.wf : V → Prop
  | mk {k : Int} {b : Nat} {t : Str} {ks : List Str} {is : List V} (h1 : -9223372036854775808 ≤ k ∧ k ≤ 9223372036854775807) (h2 : b < 2 ^ 64) (h3 : t.length ≤ reach) (h4 : ks.length * 16 ≤ reach) (h5 : is.length * 80 ≤ reach)
      (h6 : ∀ s ∈ ks, s.length ≤ reach) (h7 : ∀ x ∈ is, V.wf x) : V.wf (.mk k b t ks is)
theorem V.wf.inv {k : Int} {b : Nat} {t : Str} {ks : List Str} {is : List V} (h : V.wf (.mk k b t ks is)) : (-9223372036854775808 ≤ k ∧ k ≤ 9223372036854775807) ∧ b < 2 ^ 64 ∧ t.length ≤ reach ∧ ks.length * 16 ≤ reach ∧ is.length * 80 ≤ reach ∧ (∀ s ∈ ks, s.length ≤ reach) ∧ ∀ x ∈ is, V.wf x := by
  cases h with | mk h1 h2 h3 h4 h5 h6 h7 => exact ⟨h1, h2, h3, h4, h5, h6, h7⟩
theorem V.wf_nil : V.nil.wf := .mk (by decide) (by decide) (by decide) (by decide) (by decide) (fun _ h => by cases h) (fun _ h => by cases h)

/-! ### the page -/
def keyOk (s : Str) : Bool := decide (1 ≤ s.length) && decide (s.length ≤ 16)
def keyAt (l : List Str) (j : Nat) : Bool := keyOk (l.getD j []) && (j == 0 || Op.bytesLess (l.getD (j - 1) []) (l.getD j []))
def keysOk (l : List Str) : Bool := (List.range l.length).all (keyAt l)
theorem all_range_succ {p : Nat → Bool} {k : Nat} (h : (List.range k).all p = true) (hk : p k = true) : (List.range (k + 1)).all p = true := by
  simp [List.range_succ] at h ⊢
  exact ⟨h, hk⟩
theorem all_range_false {p : Nat → Bool} {k n : Nat} (hk : k < n) (h : p k = false) : (List.range n).all p = false := by
  rw [List.all_eq_false]
  exact ⟨k, by simpa using hk, by simp [h]⟩

def partOk : V → Bool
  | .mk k b t ks is =>
    if k = 0 then b == 0 && t == [] && ks.length == 0 && is.length == 0
    else if k = 1 then decide (b ≤ 1) && t == [] && ks.length == 0 && is.length == 0
    else if k = 2 then canonN b == b && t == [] && ks.length == 0 && is.length == 0
    else if k = 3 then b == 0 && decide (t.length ≤ 128) && ks.length == 0 && is.length == 0
    else if k = 4 then b == 0 && t == [] && ks.length == 0 && decide (is.length ≤ 32)
    else if k = 5 then b == 0 && t == [] && decide (is.length ≤ 32) && ks.length == is.length && keysOk ks
    else false

mutual
/-- The first error of a walk, and the parts so far. -/
def V.chk : V → Int → Int → Int × Int
  | .mk k b t ks is, lev, n => if 8 < lev then (10, n) else if 512 ≤ n then (3, n) else if partOk (.mk k b t ks is) = false then (9, n) else V.chks is lev (n + 1)
def V.chks : List V → Int → Int → Int × Int
  | [], _, n => (0, n)
  | x :: r, lev, n => if (x.chk (lev + 1) n).1 ≠ 0 then x.chk (lev + 1) n else V.chks r lev (x.chk (lev + 1) n).2
end
mutual
def V.depth : V → Int
  | .mk _ _ _ _ is => 1 + V.depths is
def V.depths : List V → Int
  | [] => 0
  | x :: r => max x.depth (V.depths r)
end
def V.err (v : V) : Int := (v.chk 1 0).1
def V.cnt (v : V) : Int := (v.chk 1 0).2

mutual
def V.same : V → V → Bool
  | .mk k b t ks is, .mk k' b' t' ks' is' => k == k' && b == b' && t == t' && ks == ks' && V.sames is is'
def V.sames : List V → List V → Bool
  | [], [] => true
  | x :: r, y :: s => x.same y && V.sames r s
  | _, _ => false
end
mutual
theorem V.same_refl : ∀ e : V, e.same e = true
  | .mk k b t ks is => by simp [V.same, V.sames_refl is]
theorem V.sames_refl : ∀ l : List V, V.sames l l = true
  | [] => rfl
  | x :: r => by simp [V.sames, V.same_refl x, V.sames_refl r]
end
mutual
theorem V.same_eq : ∀ {a b : V}, a.same b = true → a = b
  | .mk k b t ks is, .mk k' b' t' ks' is', h => by
    simp only [V.same, Bool.and_eq_true, beq_iff_eq] at h
    obtain ⟨⟨⟨⟨rfl, rfl⟩, rfl⟩, rfl⟩, h⟩ := h
    rw [V.sames_eq h]
theorem V.sames_eq : ∀ {a b : List V}, V.sames a b = true → a = b
  | [], [], _ => rfl
  | x :: r, y :: s, h => by
    simp only [V.sames, Bool.and_eq_true] at h
    rw [V.same_eq h.1, V.sames_eq h.2]
  | [], _ :: _, h => by simp [V.sames] at h
  | _ :: _, [], h => by simp [V.sames] at h
end
instance : DecidableEq V := fun a b => if h : a.same b = true then isTrue (V.same_eq h) else isFalse fun e => h (e ▸ V.same_refl a)
theorem V.same_iff {a b : V} : a.same b = decide (a = b) := by
  by_cases h : a = b
  · subst h; simp [V.same_refl]
  · simp only [h, decide_false]
    cases hs : a.same b with
    | false => rfl
    | true => exact absurd (V.same_eq hs) h

mutual
theorem V.chk_bounds : ∀ (v : V) (lev n : Int), n ≤ (v.chk lev n).2 ∧ (n ≤ 512 → (v.chk lev n).2 ≤ 512)
  | .mk k b t ks is, lev, n => by
    unfold V.chk
    split
    · exact ⟨Int.le_refl _, id⟩
    · split
      · exact ⟨Int.le_refl _, id⟩
      · split
        · exact ⟨Int.le_refl _, id⟩
        · have := V.chks_bounds is lev (n + 1)
          exact ⟨by omega, fun h => this.2 (by omega)⟩
theorem V.chks_bounds : ∀ (l : List V) (lev n : Int), n ≤ (V.chks l lev n).2 ∧ (n ≤ 512 → (V.chks l lev n).2 ≤ 512)
  | [], lev, n => ⟨Int.le_refl _, id⟩
  | x :: r, lev, n => by
    unfold V.chks
    have h1 := V.chk_bounds x (lev + 1) n
    split
    · exact h1
    · have h3 := V.chks_bounds r lev (x.chk (lev + 1) n).2
      exact ⟨by omega, fun h => h3.2 (h1.2 h)⟩
end
/-- A walk that is right is not too deep. -/
theorem V.depths_nonneg : ∀ l : List V, 0 ≤ V.depths l
  | [] => Int.le_refl _
  | x :: r => by unfold V.depths; have := V.depths_nonneg r; omega
mutual
theorem V.chk_depth : ∀ (v : V) (lev n : Int), (v.chk lev n).1 = 0 → lev + v.depth ≤ 9 ∧ 1 ≤ v.depth
  | .mk k b t ks is, lev, n, h => by
    unfold V.chk at h
    split at h
    · simp at h
    · split at h
      · simp at h
      · split at h
        · simp at h
        · have := V.chks_depth is lev (n + 1) h
          have h0 := V.depths_nonneg is
          unfold V.depth
          omega
theorem V.chks_depth : ∀ (l : List V) (lev n : Int), (V.chks l lev n).1 = 0 → V.depths l = 0 ∨ lev + V.depths l ≤ 8
  | [], lev, n, h => .inl rfl
  | x :: r, lev, n, h => by
    unfold V.chks at h
    split at h
    · rename_i h'; exact absurd h h'
    · rename_i h'
      have h1 := V.chk_depth x (lev + 1) n (by simpa using h')
      have h2 := V.chks_depth r lev _ h
      right
      unfold V.depths
      omega
end
end Go.Proofs.Ytkiankpmkglhcaa.J
