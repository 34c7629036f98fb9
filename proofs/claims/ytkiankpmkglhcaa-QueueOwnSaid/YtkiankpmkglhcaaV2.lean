/- Owned trees taken apart. -/
import Derived.Test.YtkiankpmkglhcaaV1
namespace Go.Proofs.Ytkiankpmkglhcaa.J
open Go Go.RowKit
set_option linter.unusedVariables false
set_option linter.unusedSimpArgs false

theorem Reown.msk (ms : List Cd) (own : List Own) {own' : List Own} (h : selP ms own = own') : Reown own own' := by
  subst h
  exact (Reown.perm ((sel_perm ms own).trans List.perm_append_comm)).trans (Reown.drop _ _)
theorem Reown.pair {a b o : Own} {l : List Own} (h : OwnEq (.grp [a, b]) o) : Reown (o :: l) (a :: b :: l) := (Reown.eq h.symm).trans (Reown.open [a, b] l)
theorem Reown.spoil {o1 o2 a b c d : Own} (h1 : OwnEq (.grp [a, b]) o1) (h2 : OwnEq (.grp [c, d]) o2) : Reown [o1, o2] [a, c, d] :=
  (Reown.pair h1).trans ((Reown.cons (Reown.cons (Reown.pair h2))).trans (Reown.msk [.p, .k, .p, .p] _ rfl))
theorem Tr.inv {e : ETy} {xs : List (List AV)} {v : Value} {o : Own} (h : Tr (.sl true false e xs) v o) :
    ∃ cs us o1, cs.flatten = us.map AV.c ∧ cs.length = xs.length ∧ (∀ x ∈ cs, x.length = e.sz) ∧ us.all (·.oneCell') = true ∧ TrL xs.flatten us o1 ∧ OwnEq (.grp [.arr v e cs, o1]) o := by
  cases h with
  | sl h1 h2 h3 h4 h5 h6 h ho => exact ⟨_, _, _, h1, h2, h4, h5, h, ho⟩
theorem Tr.c_inv {u v : Value} {o : Own} (h : Tr (.c u) v o) : v = u := by cases h; rfl
theorem TrL.cons_inv {y : AV} {ys : List AV} {us : List Value} {o : Own} (h : TrL (y :: ys) us o) : ∃ u us' a b, us = u :: us' ∧ Tr y u a ∧ TrL ys us' b ∧ OwnEq (.grp [a, b]) o := by
  cases h with
  | cons h hs ho => exact ⟨_, _, _, _, rfl, h, hs, ho⟩
theorem TrL.nil_inv {us : List Value} {o : Own} (h : TrL [] us o) : us = [] := by cases h; rfl
theorem TrL.value {x : V} {us : List Value} {o : Own} (h : TrL (x.cs true) us o) (h1 : us.all (·.oneCell') = true) : ∃ kv iv ok oi, us = x.vals kv iv ∧ VTr x kv iv ok oi ∧ Reown [o] [ok, oi] := by
  obtain ⟨k, b, t, ks, is⟩ := x
  unfold V.cs at h
  obtain ⟨u0, us0, a0, b0, rfl, g0, h, e0⟩ := h.cons_inv
  obtain ⟨u1, us1, a1, b1, rfl, g1, h, e1⟩ := h.cons_inv
  obtain ⟨u2, us2, a2, b2, rfl, g2, h, e2⟩ := h.cons_inv
  obtain ⟨u3, us3, a3, b3, rfl, g3, h, e3⟩ := h.cons_inv
  obtain ⟨u4, us4, a4, b4, rfl, g4, h, e4⟩ := h.cons_inv
  obtain rfl := h.nil_inv
  obtain rfl := g0.c_inv
  obtain rfl := g1.c_inv
  obtain rfl := g2.c_inv
  simp only [List.all_cons, List.all_nil, Bool.and_eq_true, Bool.and_true] at h1
  refine ⟨u3, u4, a3, a4, rfl, ⟨h1.2.2.2.1, h1.2.2.2.2, g3, g4⟩, ?_⟩
  have s0 : Reown [o] [b0] := (Reown.pair e0).trans (Reown.dropN 1 _ rfl)
  have s1 : Reown [b0] [b1] := (Reown.pair e1).trans (Reown.dropN 1 _ rfl)
  have s2 : Reown [b1] [b2] := (Reown.pair e2).trans (Reown.dropN 1 _ rfl)
  have s3 : Reown [b2] [a3, a4] := (Reown.pair e3).trans ((Reown.cons (Reown.pair e4)).trans (Reown.msk [.p, .p] _ rfl))
  exact s0.trans (s1.trans (s2.trans s3))

theorem flat_first {u1 u2 : List Value} {c : List AV} {cs : List (List AV)} (h : (c :: cs).flatten = (u1 ++ u2).map AV.c) (hl : c.length = u1.length) : c = u1.map AV.c ∧ cs.flatten = u2.map AV.c := by
  rw [List.flatten_cons, List.map_append] at h
  exact List.append_inj h (by simpa using hl)
/-- The next of a list's items, with what it owns, taken out. -/
theorem kids_take {is : List V} {cs : List (List AV)} {us : List Value} {o : Own} {j : Nat} (hlt : j < is.length) (hl : cs.length = is.length) (h3 : ∀ x ∈ cs, x.length = 5) (hf : (cs.drop j).flatten = us.map AV.c) (h1 : us.all (·.oneCell') = true) (h : TrL (V.css true (is.drop j)).flatten us o) :
    ∃ kv iv ok oi us2 o2, cs[j]? = some ((is[j]'hlt).raw kv iv) ∧ VTr (is[j]'hlt) kv iv ok oi ∧ (cs.drop (j + 1)).flatten = us2.map AV.c ∧ us2.all (·.oneCell') = true ∧ TrL (V.css true (is.drop (j + 1))).flatten us2 o2 ∧ Reown [o] [ok, oi, o2] := by
  rw [List.drop_eq_getElem_cons hlt, V.css, List.flatten_cons] at h
  obtain ⟨u1, u2, o1, o2, rfl, g1, g2, g3⟩ := h.split
  rw [List.all_append, Bool.and_eq_true] at h1
  obtain ⟨kv, iv, ok, oi, rfl, hV, hR⟩ := g1.value h1.1
  have hj : j < cs.length := by omega
  rw [List.drop_eq_getElem_cons hj] at hf
  obtain ⟨k1, k2⟩ := flat_first hf (by rw [h3 _ (List.getElem_mem hj)]; rfl)
  refine ⟨kv, iv, ok, oi, u2, o2, by rw [List.getElem?_eq_getElem hj, k1]; rfl, hV, k2, h1.2, g2, ?_⟩
  have s1 : Reown [o] [o1, o2] := Reown.pair g3
  have s2 : Reown [o1, o2] [ok, oi, o2] := (Reown.perm (List.Perm.swap _ _ _)).trans ((Reown.left (c := [o2]) hR).trans (Reown.perm (by
    simpa using (List.perm_append_comm (l₁ := [o2]) (l₂ := [ok, oi])))))
  exact s1.trans s2
end Go.Proofs.Ytkiankpmkglhcaa.J
