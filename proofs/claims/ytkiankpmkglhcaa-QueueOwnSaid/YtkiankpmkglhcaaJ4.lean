/- Rules for texts and for slicing; wraps; the posts' helpers. -/
import Derived.Test.YtkiankpmkglhcaaJ3
namespace Go.Proofs.Ytkiankpmkglhcaa.J
open Go Go.RowKit
set_option linter.unusedVariables false
set_option linter.unusedSimpArgs false

abbrev str (l : List UInt8) : Value := .string ⟨l.toArray⟩

theorem ba_toList (l : List UInt8) : (⟨l.toArray⟩ : ByteArray).toList = l := by
  have h : ∀ (b : ByteArray) (i : Nat) (r : List UInt8), ByteArray.toList.loop b i r = r.reverse ++ b.data.toList.drop i := by
    intro b i r
    induction hn : b.size - i generalizing i r with
    | zero =>
      unfold ByteArray.toList.loop
      rw [if_neg (by omega), List.drop_eq_nil_of_le (by simp [← ByteArray.size_data] at hn ⊢; omega)]
      simp
    | succ n ih =>
      unfold ByteArray.toList.loop
      rw [if_pos (by omega), ih (i + 1) (b.get! i :: r) (by omega)]
      have hlt : i < b.data.toList.length := by simp [← ByteArray.size_data] at hn ⊢; omega
      rw [List.drop_eq_getElem_cons hlt]
      have hb : b.get! i = b.data.toList[i] := by
        have hi : i < b.data.size := by simpa using hlt
        show b.data[i]! = _
        rw [getElem!_pos b.data i hi]; simp
      simp [hb]
  simpa [ByteArray.toList] using h ⟨l.toArray⟩ 0 []

section
variable {P : Program} {E : Ent} {st : St} {t : TypeId} {g : Bool} {n B : Nat} {w : World} {d : Option Tmp} {ty : TypeId} {pos : String} {af : Array Edge} {gd : Option (Nat × Bool)} {x y z : Operand}
variable {l l' : List UInt8} {yt : TypeId}

theorem QW.len_s (hU : P.underlying t = some .string) (h : Ev E st x (.c (str l))) :
    QW P E st ⟨d, .call ⟨.builtin .len, #[x], #[t]⟩, ty, pos, af, gd⟩ (.c (.int .i64 (l.length : Int))) := (QW.len_str hU h).conv (by simp [ByteArray.size])

section
theorem QW.eql_s (hx : Ev E st x (.c (str l))) (hy : Ev E st y (.c (str l'))) : QW P E st ⟨d, .binOp .eql t x y yt, ty, pos, af, gd⟩ (.c (.bool (l == l'))) := (QW.seql hx hy).conv (by rw [ba_toList, ba_toList])
theorem QW.neq_s (hx : Ev E st x (.c (str l))) (hy : Ev E st y (.c (str l'))) : QW P E st ⟨d, .binOp .neq t x y yt, ty, pos, af, gd⟩ (.c (.bool (l != l'))) := (QW.sneq hx hy).conv (by rw [ba_toList, ba_toList])
theorem QW.lss_s (hx : Ev E st x (.c (str l))) (hy : Ev E st y (.c (str l'))) : QW P E st ⟨d, .binOp .lss t x y yt, ty, pos, af, gd⟩ (.c (.bool (Op.bytesLess l l'))) := (QW.slss hx hy).conv (by rw [ba_toList, ba_toList])
theorem QW.leq_s (hx : Ev E st x (.c (str l))) (hy : Ev E st y (.c (str l'))) : QW P E st ⟨d, .binOp .leq t x y yt, ty, pos, af, gd⟩ (.c (.bool (Op.bytesLess l l' || l == l'))) := (QW.sleq hx hy).conv (by rw [ba_toList, ba_toList])
theorem QW.gtr_s (hx : Ev E st x (.c (str l))) (hy : Ev E st y (.c (str l'))) : QW P E st ⟨d, .binOp .gtr t x y yt, ty, pos, af, gd⟩ (.c (.bool (!(Op.bytesLess l l' || l == l')))) := (QW.sgtr hx hy).conv (by rw [ba_toList, ba_toList])
theorem QW.geq_s (hx : Ev E st x (.c (str l))) (hy : Ev E st y (.c (str l'))) : QW P E st ⟨d, .binOp .geq t x y yt, ty, pos, af, gd⟩ (.c (.bool (!Op.bytesLess l l'))) := (QW.sgeq hx hy).conv (by rw [ba_toList, ba_toList])
theorem QW.add_s (hx : Ev E st x (.c (str l))) (hy : Ev E st y (.c (str l'))) (hb : l.length + l'.length ≤ 9223372036854775807) : QW P E st ⟨d, .binOp .add t x y yt, ty, pos, af, gd⟩ (.c (str (l ++ l'))) := .bin hx hy guard_str fun w => by
  have hs : ¬ (((⟨l.toArray⟩ : ByteArray).size + (⟨l'.toArray⟩ : ByteArray).size : Nat) : Int) > IntKind.i64.max := by
    simp [ByteArray.size, IntKind.max, IntKind.signed, IntKind.bits]; omega
  simp only [binOp, Op.stringOp, hs, if_false]
  simp [str, ByteArray.ext_iff]
end

theorem QW.index_s {k : IntKind} {i : Int} {m : Nat} {b : UInt8} (hU : P.underlying t = some .string) (hx : Ev E st x (.c (str l))) (hi : Ev E st y (.c (.int k i))) (him : i = (m : Int)) (hb : l[m]? = some b) :
    QW P E st ⟨d, .index t x y, ty, pos, af, gd⟩ (.c (.int .u8 (b.toNat : Int))) := .pure fun A a w hs => by
  subst him
  have hlt : m < l.length := (List.getElem?_eq_some_iff.1 hb).1
  have hg : (⟨l.toArray⟩ : ByteArray)[m]? = some b := by
    have hlt' : m < (⟨l.toArray⟩ : ByteArray).size := by simpa [ByteArray.size] using hlt
    rw [getElem?_pos (⟨l.toArray⟩ : ByteArray) m hlt']
    show some (l.toArray[m]'(by simpa using hlt)) = _
    simp [← (List.getElem?_eq_some_iff.1 hb).2]
  exact ⟨_, by simp [execOp, Instr.index, asIntOf, run_underlying _ hU, hx.eq hs, hi.eq hs, hg], .c _⟩


end

/-! ### the posts' helpers -/
section
variable {E : Ent} {K : St → Prop} {Q : Exit → St → Prop} {s : St} {i j : Nat} {ch : List PanicEntry}
theorem thenQ.n (h : K s) : thenQ K Q .normal s := h
theorem thenQ.x (h : Q (.exit i) s) : thenQ K Q (.exit i) s := h
theorem thenQ.r (h : Q .ret s) : thenQ K Q .ret s := h
theorem thenQ.p (h : Q (.panic ch) s) : thenQ K Q (.panic ch) s := h
theorem blkQ.n (h : Q .normal s) : blkQ i Q .normal s := h
theorem blkQ.hit (h : Q .normal s) : blkQ i Q (.exit i) s := by
  show (match Nat.beq i i with | true => Q .normal s | false => Q (.exit i) s)
  rw [Nat.beq_refl]; exact h
theorem blkQ.miss (hb : Nat.beq j i = false) (h : Q (.exit j) s) : blkQ i Q (.exit j) s := by
  show (match Nat.beq j i with | true => Q .normal s | false => Q (.exit j) s)
  rw [hb]; exact h
theorem blkQ.r (h : Q .ret s) : blkQ i Q .ret s := h
theorem blkQ.p (h : Q (.panic ch) s) : blkQ i Q (.panic ch) s := h
end

/-! ### wraps -/
theorem w64 {n : Int} (h : -9223372036854775808 ≤ n ∧ n ≤ 9223372036854775807) : IntKind.i64.wrap n = n := IntWalk.i64_in n h
theorem w64n {n : Int} {m : Nat} (h : n = (m : Int)) (hb : m ≤ 9223372036854775807) : IntKind.i64.wrap n = (m : Int) := by
  rw [w64 (by omega), h]
theorem wu64 {n : Int} (h : 0 ≤ n ∧ n ≤ 18446744073709551615) : IntKind.u64.wrap n = n := IntWalk.u64_in n h
theorem wu8 {n : Int} (h : 0 ≤ n ∧ n ≤ 255) : IntKind.u8.wrap n = n := IntWalk.u8_in n h
theorem wu8_mod {n : Int} : IntKind.u8.wrap n = n % 256 := by
  simp [IntKind.wrap, IntKind.bits, IntKind.signed]

/-! ### weakenings of states -/
/-- The same slots or fewer, the same own entries in whatever order. -/
theorem Wk.env {n : Nat} {env env' : List (Nat × AV)} {own own' dr : List Own} {F F' : List (Value × AV)} {D : List Deferred}
    (henv : ∀ i x, lk env' i = some x → ∃ y, lk env i = some y ∧ Le F y x) (hown : own.Perm (own' ++ dr)) (hF : ∀ p ∈ F', p ∈ F) : Wk ⟨n, env, own, F, D⟩ ⟨n, env', own', F', D⟩ := fun E a w ⟨A, h⟩ =>
  ⟨A, h.size, h.defers, h.keep, (h.hp.perm hown).left, fun i x hl => by
    obtain ⟨y, hy, hle⟩ := henv i x hl
    exact (h.env i y hy).le h.hp.mono h.facts hle, fun p hp => h.facts p (hF p hp)⟩

/-- Pointwise on a list of slots. -/
inductive EnvLe (F : List (Value × AV)) (env : List (Nat × AV)) : List (Nat × AV) → Prop
  | nil : EnvLe F env []
  | cons {i : Nat} {x y : AV} {l : List (Nat × AV)} (h : lk env i = some y) (hl : Le F y x) (hs : EnvLe F env l) : EnvLe F env ((i, x) :: l)
theorem EnvLe.get {F : List (Value × AV)} {env env' : List (Nat × AV)} (h : EnvLe F env env') : ∀ i x, lk env' i = some x → ∃ y, lk env i = some y ∧ Le F y x := by
  induction h with
  | nil => intro i x h; simp [lk] at h
  | cons h hl _ ih =>
    intro i x hx
    rcases lk_cons hx with ⟨rfl, rfl⟩ | ⟨_, hx⟩
    · exact ⟨_, h, hl⟩
    · exact ih i x hx
theorem Wk.mk {n : Nat} {env env' : List (Nat × AV)} {own own' dr : List Own} {F F' : List (Value × AV)} {D : List Deferred}
    (henv : EnvLe F env env') (hown : own.Perm (own' ++ dr)) (hF : ∀ p ∈ F', p ∈ F) : Wk ⟨n, env, own, F, D⟩ ⟨n, env', own', F', D⟩ := .env henv.get hown hF

end Go.Proofs.Ytkiankpmkglhcaa.J
