/- Events as plain data: a name and a value; lists of them. -/
import Derived.Test.YtkiankpmkglhcaaJ19
namespace Go.Proofs.Ytkiankpmkglhcaa.J
open Go Go.RowKit
set_option linter.unusedVariables false
set_option linter.unusedSimpArgs false

structure EvT where
  name : Str
  arg : V
  deriving DecidableEq

def eEv : ETy := ⟨6, 96⟩
def EvT.cs (fr : Bool) (e : EvT) : List AV := .c (str e.name) :: e.arg.cs fr
def EvT.css (fr : Bool) (l : List EvT) : List (List AV) := l.map (EvT.cs fr)
theorem EvT.cs_length (fr : Bool) (e : EvT) : (e.cs fr).length = 6 := by simp [EvT.cs, V.cs_length]
theorem EvT.css_length (fr : Bool) (l : List EvT) : (EvT.css fr l).length = l.length := by simp [EvT.css]
theorem EvT.css_get (fr : Bool) {l : List EvT} {i : Nat} {v : EvT} (h : l[i]? = some v) : (EvT.css fr l)[i]? = some (v.cs fr) := by simp [EvT.css, h]
theorem EvT.css_getE (fr : Bool) {l : List EvT} {i : Nat} (h : i < l.length) : (EvT.css fr l)[i]? = some ((l[i]).cs fr) := EvT.css_get fr (List.getElem?_eq_getElem h)
theorem EvT.css_append (fr : Bool) (a b : List EvT) : EvT.css fr (a ++ b) = EvT.css fr a ++ EvT.css fr b := by simp [EvT.css]
theorem EvT.css_take (fr : Bool) (a : List EvT) (k : Nat) : EvT.css fr (a.take k) = (EvT.css fr a).take k := by simp [EvT.css, List.map_take]
theorem EvT.css_drop (fr : Bool) (a : List EvT) (k : Nat) : EvT.css fr (a.drop k) = (EvT.css fr a).drop k := by simp [EvT.css, List.map_drop]
theorem EvT.css_sz (fr : Bool) (l : List EvT) : ∀ x ∈ EvT.css fr l, x.length = eEv.sz := by
  intro x hx
  obtain ⟨v, _, rfl⟩ := List.mem_map.1 hx
  exact EvT.cs_length fr v
def Ec (fr : Bool) (e : EvT) (ys : List AV) : Prop := ys = e.cs fr
theorem Ec.self {fr : Bool} {e : EvT} : Ec fr e (e.cs fr) := rfl
theorem Ec.mk {fr : Bool} {n : Str} {v : V} : Ec fr ⟨n, v⟩ (.c (str n) :: v.cs fr) := rfl
theorem Ec.mk2 {fr : Bool} {n : Str} {v : V} {ys : List AV} (h : Vc fr v ys) : Ec fr ⟨n, v⟩ (.c (str n) :: ys) := by rw [h]; rfl
theorem EvT.cs_fl (fr : Bool) (e : EvT) : FlL (· = fr) (e.cs fr) := .cons (.c _) (V.cs_fl fr _)
theorem EvT.css_fl (fr : Bool) (l : List EvT) : FlL (· = fr) (EvT.css fr l).flatten := FlL.flat fun x hx => by
  obtain ⟨v, _, rfl⟩ := List.mem_map.1 hx
  exact v.cs_fl fr
theorem EvT.cs_le {F : List (Value × AV)} (fr fr' : Bool) (hf : fr' = true → fr = true) (e : EvT) : LeL F (e.cs fr) (e.cs fr') := .cons (.refl _) (V.cs_le fr fr' hf _)
theorem EvT.css_le {F : List (Value × AV)} (fr fr' : Bool) (hf : fr' = true → fr = true) : ∀ l : List EvT, LeL F (EvT.css fr l).flatten (EvT.css fr' l).flatten
  | [] => .nil
  | v :: r => by
    simp only [EvT.css, List.map_cons, List.flatten_cons]
    exact LeL.append (v.cs_le fr fr' hf) (EvT.css_le fr fr' hf r)
theorem events_le {F : List (Value × AV)} (fr fr' clip : Bool) (hf : fr' = true → fr = true) (l : List EvT) : Le F (.sl fr clip eEv (EvT.css fr l)) (.sl fr' false eEv (EvT.css fr' l)) :=
  .slL hf (by rw [EvT.css_length, EvT.css_length]) (EvT.css_sz fr' l) (EvT.css_le fr fr' hf l)
theorem events_low (l : List EvT) : LowFl (.sl false false eEv (EvT.css false l)) := .sl rfl (EvT.css_fl false l)
theorem events_fresh (l : List EvT) (c : Bool) : Fresh (.sl true c eEv (EvT.css true l)) := .sl rfl (EvT.css_fl true l)
structure EvT.wf (e : EvT) : Prop where
  name : e.name.length ≤ reach
  arg : e.arg.wf
def EvT.wfs (l : List EvT) : Prop := l.length * 96 ≤ reach ∧ ∀ e ∈ l, e.wf
theorem EvT.wfs_nil : EvT.wfs [] := ⟨by decide, fun _ h => by cases h⟩
theorem EvT.wfs.len {l : List EvT} (h : EvT.wfs l) : l.length ≤ 1466015503658 := by have := h.1; unfold reach at this; omega
theorem EvT.wfs.take {l : List EvT} (h : EvT.wfs l) (k : Nat) : EvT.wfs (l.take k) := ⟨Nat.le_trans (Nat.mul_le_mul_right _ (by simp; omega)) h.1, fun e he => h.2 e (List.mem_of_mem_take he)⟩
theorem EvT.wfs.drop {l : List EvT} (h : EvT.wfs l) (k : Nat) : EvT.wfs (l.drop k) := ⟨Nat.le_trans (Nat.mul_le_mul_right _ (by simp)) h.1, fun e he => h.2 e (List.mem_of_mem_drop he)⟩

def EvT.raw (e : EvT) (kv iv : Value) : List AV := .c (str e.name) :: e.arg.raw kv iv
def EvT.vals (e : EvT) (kv iv : Value) : List Value := str e.name :: e.arg.vals kv iv
theorem EvT.trL {e : EvT} {kv iv : Value} {ok oi : Own} (h : VTr e.arg kv iv ok oi) : TrL (e.cs true) (e.vals kv iv) (.grp [ok, oi]) := .cons (.c (.refl _)) h.trL (.drops _)
theorem EvT.ones {e : EvT} {kv iv : Value} {ok oi : Own} (h : VTr e.arg kv iv ok oi) : (e.vals kv iv).all (·.oneCell') = true := by
  have := h.ones
  simp only [EvT.vals, List.all_cons, this, Bool.and_true]
  rfl
theorem ListTr.snocE {l : List EvT} {cells : List (List AV)} {us : List Value} {o ok oi : Own} {e : EvT} {kv iv : Value} (h : ListTr eEv (EvT.css true l) cells us o) (hv : VTr e.arg kv iv ok oi) :
    ListTr eEv (EvT.css true (l ++ [e])) (cells ++ [e.raw kv iv]) (us ++ e.vals kv iv) (.grp [o, .grp [ok, oi]]) := by
  rw [EvT.css_append]
  exact h.snoc (EvT.cs_length true e) (EvT.trL hv) (EvT.ones hv)
/-- Events that are owned to their last cell. -/
def EvsR (l : List EvT) : AV → List Own → Prop := fun x o => ∃ v ov, x = .c v ∧ v.oneCell' = true ∧ o = [ov] ∧ Tr (.sl true false eEv (EvT.css true l)) v ov

/-! ### the page -/
def nameOk (s : Str) : Bool := keyOk s
def evErr (e : EvT) : Int := if nameOk e.name then e.arg.err else 31
def evOk (e : EvT) : Bool := nameOk e.name && e.arg.err == 0
theorem evOk_iff (e : EvT) : evOk e = (evErr e == 0) := by
  unfold evOk evErr
  cases nameOk e.name <;> simp

structure QT where
  limit : Int
  last : Int
  events : List EvT
  deriving DecidableEq
def QT.nil : QT := ⟨0, 0, []⟩
def QT.cs (fr : Bool) : QT → List AV
  | ⟨a, b, l⟩ => [.c (.int .i64 a), .c (.int .i64 b), .sl fr false eEv (EvT.css fr l)]
structure QT.wf (q : QT) : Prop where
  l1 : -9223372036854775808 ≤ q.limit ∧ q.limit ≤ 9223372036854775807
  l2 : -9223372036854775808 ≤ q.last ∧ q.last ≤ 9223372036854775807
  ev : EvT.wfs q.events
def QT.ok (q : QT) : Bool := decide (1 ≤ q.limit) && decide (q.limit ≤ 64) && decide ((q.events.length : Int) ≤ q.limit) && decide ((q.events.length : Int) ≤ q.last) && decide (q.last ≤ 1099511627776) && q.events.all evOk
def QT.err (q : QT) : Int := if q.ok then 0 else 9
/-- Push: the queue, the number, the error. -/
def QT.push (q : QT) (e : EvT) : QT × Int × Int :=
  if q.ok = false then (.nil, 0, 9) else if evErr e ≠ 0 then (.nil, 0, evErr e) else if (q.events.length : Int) = q.limit ∨ q.last = 1099511627776 then (.nil, 0, 51) else (⟨q.limit, q.last + 1, q.events ++ [e]⟩, q.last + 1, 0)
def QT.cut (q : QT) (n : Int) : Nat := min n.toNat q.events.length
/-- Take: the queue, the events, the first one's number, the error. -/
def QT.take (q : QT) (n : Int) : QT × List EvT × Int × Int :=
  if q.ok = false then (.nil, [], 0, 9) else if n < 0 then (.nil, [], 0, 4) else
    (⟨q.limit, q.last, q.events.drop (q.cut n)⟩, q.events.take (q.cut n), if 0 < q.cut n then q.last - q.events.length + 1 else 0, 0)
def QT.full (q : QT) : Bool := q.ok && ((q.events.length : Int) == q.limit)
def Qc (fr : Bool) (q : QT) (ys : List AV) : Prop := ys = q.cs fr
theorem Qc.self {fr : Bool} {q : QT} : Qc fr q (q.cs fr) := rfl
theorem Qc.mk {fr : Bool} {a b : Int} {l : List EvT} : Qc fr ⟨a, b, l⟩ [.c (.int .i64 a), .c (.int .i64 b), .sl fr false eEv (EvT.css fr l)] := rfl
def QT.av (q : QT) : AV := .agg (q.cs true)
def evsAV (l : List EvT) : AV := .sl true false eEv (EvT.css true l)

def idxF {α : Type} (p : α → Bool) : List α → Int → Int
  | [], _ => -1
  | x :: r, k => if p x then k else idxF p r (k + 1)
theorem idxF_any {α : Type} (p : α → Bool) : ∀ (l : List α) (k : Int), 0 ≤ k → (decide (0 ≤ idxF p l k)) = l.any p
  | [], k, h => by simp [idxF]
  | x :: r, k, h => by
    unfold idxF
    cases hx : p x with
    | true => simp [hx, h]
    | false => simpa [hx] using idxF_any p r (k + 1) (by omega)
theorem idxF_drop {α : Type} (p : α → Bool) {l : List α} {j : Nat} (h : j < l.length) (k : Int) : idxF p (l.drop j) k = if p l[j] then k else idxF p (l.drop (j + 1)) (k + 1) := by
  rw [List.drop_eq_getElem_cons h, idxF]
end Go.Proofs.Ytkiankpmkglhcaa.J
