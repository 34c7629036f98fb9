/- Values whose memory a call owns. -/
import Derived.Test.YtkiankpmkglhcaaV0
namespace Go.Proofs.Ytkiankpmkglhcaa.J
open Go Go.RowKit
set_option linter.unusedVariables false
set_option linter.unusedSimpArgs false

theorem ok_grp {w : World} {A : Foot} {l : List Own} : (Own.grp l).ok w A ↔ ∀ o ∈ l, o.ok w A := by simp [Own.ok, okl_iff]
theorem fp_grp {l : List Own} : (Own.grp l).fp = fps l := by simp [Own.fp, fpl_eq]
theorem Reown.nilGrpE (own : List Own) : Reown own (own ++ [.grp []]) := ⟨fun x => by simp [fps_append, fps_cons, fp_grp, fps_nil], fun w A g o ho => by
  rcases List.mem_append.1 ho with ho | ho
  · exact g o ho
  · simp only [List.mem_singleton] at ho; subst ho; simp [ok_grp]⟩

theorem Reown.tri (o a b : Own) (l : List Own) : Reown (o :: a :: b :: l) (.grp [o, .grp [a, b]] :: l) := ⟨fun x => by simp only [fps_cons, fps_nil, fp_grp, List.count_append, List.count_nil]; omega, fun w A h => by
  simp only [List.forall_mem_cons, ok_grp, List.not_mem_nil, false_implies, implies_true, and_true] at h ⊢
  exact ⟨⟨h.1, h.2.1, h.2.2.1⟩, h.2.2.2⟩⟩
theorem Reown.rot3g (a b c : Own) (l : List Own) : Reown (a :: b :: c :: l) (c :: .grp [a, b] :: l) := ⟨fun x => by simp only [fps_cons, fps_nil, fp_grp, List.count_append, List.count_nil]; omega, fun w A h => by
  simp only [List.forall_mem_cons, ok_grp, List.not_mem_nil, false_implies, implies_true, and_true] at h ⊢
  exact ⟨h.2.2.1, ⟨h.1, h.2.1⟩, h.2.2.2⟩⟩
theorem Reown.grp2 (a b : Own) (l : List Own) : Reown (a :: b :: l) (.grp [a, b] :: l) := ⟨fun x => by simp only [fps_cons, fps_nil, fp_grp, List.count_append, List.count_nil]; omega, fun w A h => by
  simp only [List.forall_mem_cons, ok_grp, List.not_mem_nil, false_implies, implies_true, and_true] at h ⊢
  exact ⟨⟨h.1, h.2.1⟩, h.2.2⟩⟩
theorem Reown.swap (a b : Own) (l : List Own) : Reown (a :: b :: l) (b :: a :: l) := .perm (.swap _ _ _)

section
variable {P : Program} {E : Ent} {Q : Exit → St → Prop} {n : Nat} {env : List (Nat × AV)} {own : List Own} {F : List (Value × AV)} {D : List Deferred} {ops : Array Oper} {l : List Oper} {c : Code}
theorem J.isSlice (i : Nat) {v : Value} {e : ETy} {xs : List (List AV)} (hi : own[i]? = some (.arr v e xs)) (h : v.oneCell' = true → J P E c ⟨n, env, own, F, D⟩ Q) : J P E c ⟨n, env, own, F, D⟩ Q := fun a w ⟨A, hA⟩ => by
  refine h ?_ a w ⟨A, hA⟩
  rcases hA.arr i hi with ⟨_, hv, _⟩ | ⟨_, _, _, _, hv, _⟩ <;> (rw [hv]; rfl)
theorem JL.isSlice (i : Nat) {v : Value} {e : ETy} {xs : List (List AV)} (hi : own[i]? = some (.arr v e xs)) (h : v.oneCell' = true → JL P E ops l ⟨n, env, own, F, D⟩ Q) : JL P E ops l ⟨n, env, own, F, D⟩ Q := fun a w ⟨A, hA⟩ => by
  refine h ?_ a w ⟨A, hA⟩
  rcases hA.arr i hi with ⟨_, hv, _⟩ | ⟨_, _, _, _, hv, _⟩ <;> (rw [hv]; rfl)
end

/-- A value's two lists, owned. -/
structure VTr (v : V) (kv iv : Value) (ok oi : Own) : Prop where
  k1 : kv.oneCell' = true
  i1 : iv.oneCell' = true
  ks : Tr (.sl true false eStr (keysAV v.keys)) kv ok
  is : Tr (.sl true false eV (V.css true v.items)) iv oi

/-- The cells of a value that is owned. -/
def V.raw (v : V) (kv iv : Value) : List AV := [.c (.int .i64 v.kind), .c (.int .u64 (v.bits : Int)), .c (str v.text), .c kv, .c iv]
def V.vals (v : V) (kv iv : Value) : List Value := [.int .i64 v.kind, .int .u64 (v.bits : Int), str v.text, kv, iv]
theorem V.raw_eq (v : V) (kv iv : Value) : v.raw kv iv = (v.vals kv iv).map AV.c := rfl

theorem OwnEq.drops (o : Own) : OwnEq (.grp [.grp [], o]) o := (OwnEq.nest [] [o]).trans (OwnEq.one o)
theorem VTr.trL {v : V} {kv iv : Value} {ok oi : Own} (h : VTr v kv iv ok oi) : TrL (v.cs true) (v.vals kv iv) (.grp [ok, oi]) := by
  obtain ⟨k, b, t, ks, is⟩ := v
  have hn : TrL [] [] (.grp []) := .nil (.refl _)
  refine .cons (.c (.refl _)) (.cons (.c (.refl _)) (.cons (.c (.refl _)) (.cons h.ks (.cons h.is hn (o'' := oi) ?_) (.refl _)) (.drops _)) (.drops _)) (.drops _)
  exact (OwnEq.grp_perm (List.Perm.swap _ _ _)).trans (.drops _)
theorem VTr.ones {v : V} {kv iv : Value} {ok oi : Own} (h : VTr v kv iv ok oi) : (v.vals kv iv).all (·.oneCell') = true := by
  simp [V.vals, h.k1, h.i1]
  exact ⟨rfl, rfl, rfl⟩
theorem VTr.tr {v : V} {kv iv : Value} {ok oi : Own} (h : VTr v kv iv ok oi) : Tr (.agg (v.cs true)) (.agg (v.vals kv iv).toArray) (.grp [ok, oi]) := .agg h.ones h.trL

/-- A list of strings in an own array is a tree. -/
theorem keys_trL : ∀ ks : List Str, TrL (keysAV ks).flatten (ks.map str) (.grp [])
  | [] => .nil (.refl _)
  | s :: ks => by
    have := keys_trL ks
    simp only [keysAV, List.map_cons, List.flatten_cons, List.singleton_append] at this ⊢
    exact .cons (.c (.refl _)) this (.drops _)
theorem keys_tr {v : Value} {ks : List Str} (h : ks.length * 16 ≤ reach) : Tr (.sl true false eStr (keysAV ks)) v (.arr v eStr (keysAV ks)) :=
  .sl (us := ks.map str) (keysAV_flat ks) rfl (keysAV_sz ks) (keysAV_sz ks) (by simp; intro s hs; rfl) (by rw [keysAV_length]; exact h) (keys_trL ks) ((OwnEq.grp_perm (List.Perm.swap _ _ _)).trans ((OwnEq.drops _)))

theorem items_tr {v : Value} {is : List V} {cells : List (List AV)} {us : List Value} {o : Own} (h1 : cells.flatten = us.map AV.c) (h2 : cells.length = is.length) (h3 : ∀ x ∈ cells, x.length = 5) (h5 : us.all (·.oneCell') = true) (h6 : is.length * 80 ≤ reach)
    (h : TrL (V.css true is).flatten us o) : Tr (.sl true false eV (V.css true is)) v (.grp [.arr v eV cells, o]) :=
  .sl h1 (by rw [h2, V.css_length]) (V.css_sz true is) h3 h5 (by rw [V.css_length]; exact h6) h (.refl _)

/-- What a copy of a value is: it is owned. -/
def CopyR (v : V) : AV → List Own → Prop := fun x o => ∃ kv iv ok oi, x = .agg (v.raw kv iv) ∧ o = [ok, oi] ∧ VTr v kv iv ok oi

/-- Lists of values that are copied one by one. -/
structure KidsTr (is : List V) (cells : List (List AV)) (us : List Value) (o : Own) : Prop where
  h1 : cells.flatten = us.map AV.c
  h2 : cells.length = is.length
  h3 : ∀ x ∈ cells, x.length = 5
  h5 : us.all (·.oneCell') = true
  h : TrL (V.css true is).flatten us o
theorem KidsTr.nil : KidsTr [] [] [] (.grp []) := ⟨rfl, rfl, (fun _ h => by cases h), rfl, .nil (.refl _)⟩
theorem KidsTr.snoc {is : List V} {cells : List (List AV)} {us : List Value} {o ok oi : Own} {v : V} {kv iv : Value} (h : KidsTr is cells us o) (hv : VTr v kv iv ok oi) : KidsTr (is ++ [v]) (cells ++ [v.raw kv iv]) (us ++ v.vals kv iv) (.grp [o, .grp [ok, oi]]) := by
  refine ⟨by simp [h.h1, V.raw_eq], by simp [h.h2], fun x hx => ?_, by rw [List.all_append, h.h5, hv.ones]; rfl, ?_⟩
  · rcases List.mem_append.1 hx with hx | hx
    · exact h.h3 x hx
    · simp only [List.mem_singleton] at hx; subst hx; rfl
  · rw [V.css_append, List.flatten_append]
    refine h.h.append ?_ (.refl _)
    simpa [V.css] using hv.trL
theorem KidsTr.tr {is : List V} {cells : List (List AV)} {us : List Value} {o : Own} (h : KidsTr is cells us o) {v : Value} (h6 : is.length * 80 ≤ reach) : Tr (.sl true false eV (V.css true is)) v (.grp [.arr v eV cells, o]) :=
  items_tr h.h1 h.h2 h.h3 h.h5 h6 h.h

theorem keys_low (ks : List Str) : LowFl (.sl false false eStr (keysAV ks)) := .sl rfl (keys_fl ks)
theorem items_low (is : List V) : LowFl (.sl false false eV (V.css false is)) := .sl rfl (V.css_fl false is)
/-- An owned value, lent. -/
theorem VTr.lent {v : V} {kv iv : Value} {ok oi : Own} (h : VTr v kv iv ok oi) : Lent [(kv, .sl false false eStr (keysAV v.keys)), (iv, .sl false false eV (V.css false v.items))] [ok, oi] :=
  Lent.cons (h.ks.lent (keys_le true false (fun h => by cases h) _) (keys_low _)) (h.is.lent (items_le true false (fun h => by cases h) _) (items_low _))
theorem VTr.lentK {v : V} {kv iv : Value} {ok oi : Own} (h : VTr v kv iv ok oi) : Lent [(kv, .sl false false eStr (keysAV v.keys))] [ok] := h.ks.lent (keys_le true false (fun h => by cases h) _) (keys_low _)
theorem VTr.lentI {v : V} {kv iv : Value} {ok oi : Own} (h : VTr v kv iv ok oi) : Lent [(iv, .sl false false eV (V.css false v.items))] [oi] := h.is.lent (items_le true false (fun h => by cases h) _) (items_low _)
theorem mem_l0 {α : Type} {x : α} {l : List α} : x ∈ x :: l := List.mem_cons_self
/-- Its cells, while it is lent. -/
theorem V.raw_le {F : List (Value × AV)} {v : V} {kv iv : Value} {fr : Bool} (hk : (kv, .sl fr false eStr (keysAV v.keys)) ∈ F) (hi : (iv, .sl fr false eV (V.css fr v.items)) ∈ F) : Le F (.agg (v.raw kv iv)) (.agg (v.cs fr)) := by
  obtain ⟨k, b, t, ks, is⟩ := v
  exact .aggL (.cons (.refl _) (.cons (.refl _) (.cons (.refl _) (.cons (.fact hk (.refl _)) (.cons (.fact hi (.refl _)) .nil)))))

/-- What is owned is given up: it reads. -/
theorem Fn.close {P : Program} {f : FuncId} {xs : List AV} {z : AV} {Rx : AV → List Own → Prop} (h : AC P f [] xs (RetR Rx))
    (hc : ∀ x o, Rx x o → ∃ G, (∀ (w : World) (A : Foot), (∀ y ∈ o, y.ok w A) → (∀ b ∈ fps o, ∀ fr, A fr b) → ∀ p ∈ G, Rd w A p.1 p.2) ∧ Le G x z) : Fn P f xs z := fun w A0 vs h1 h2 => by
  refine (h w A0 vs h1 h2).mono ?_
  rintro e w' ⟨r, own', A, ⟨x, rfl, hR⟩, hk, hp, v, rfl, hv⟩
  obtain ⟨G, hG, hle⟩ := hc x own' hR
  let A' : Foot := fun fr b => A fr b ∨ b ∈ fps own'
  have hup : ∀ fr b, A fr b → A' fr b := fun fr b hb => .inl hb
  have hm : ∀ b, A' true b → A' false b := fun b hb => hb.imp (hp.mono b) id
  have hrd : Rd w' A' v z := (hv.move (fun fr b hb _ => hup fr b hb) fun _ _ _ _ => rfl : Rd w' A' v x).le (F := G) hm
    (hG w' A' (fun y hy => (hp.own y hy).move (fun fr b hb _ => hup fr b hb) (fun _ _ _ _ => rfl) fun _ _ => rfl) fun b hb fr => .inr hb) hle
  refine ⟨.ret z, [], A', ⟨rfl, rfl⟩, hk, ⟨hm, fun fr b hb => hup fr b (hp.sup fr b hb), fun fr b hb => ?_, fun fr b hb => hb.elim (hp.lt fr b) fun hb => (hp.fp b hb).1, fun b hb => by simp [fps] at hb, by simp [fps], fun o ho => by cases ho⟩, v, rfl, hrd⟩
  rcases hb with hb | hb
  · exact hp.sub fr b hb
  · rcases (hp.fp b hb).2.1 with h | h
    · simp [fps] at h
    · exact .inr h

theorem VTr.closG {v : V} {kv iv : Value} {ok oi : Own} (h : VTr v kv iv ok oi) (w : World) (A : Foot) (hok : ∀ y ∈ [ok, oi], y.ok w A) (hb : ∀ b ∈ fps [ok, oi], ∀ fr, A fr b) :
    ∀ p ∈ [(kv, AV.sl true false eStr (keysAV v.keys)), (iv, AV.sl true false eV (V.css true v.items))], Rd w A p.1 p.2 := fun p hp => by
  simp only [List.mem_cons, List.not_mem_nil, or_false] at hp
  simp only [fps_cons, fps_nil, List.append_nil, List.mem_append] at hb
  rcases hp with rfl | rfl
  · exact h.ks.rd (hok _ (by simp)) fun b hb' => hb b (.inl hb') true
  · exact h.is.rd (hok _ (by simp)) fun b hb' => hb b (.inr hb') true
theorem Fn.ofCopy {P : Program} {f : FuncId} {xs : List AV} {v : V} (h : AC P f [] xs (RetR (CopyR v))) : Fn P f xs (.agg (v.cs true)) :=
  Fn.close h fun x o ⟨kv, iv, ok, oi, hx, ho, hV⟩ => by
    subst hx ho
    exact ⟨_, hV.closG, V.raw_le (by simp) (by simp)⟩
end Go.Proofs.Ytkiankpmkglhcaa.J
