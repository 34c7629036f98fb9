/- Texts of this proof, laid together. -/
import Derived.Test.YtmccnmahegbmpaaGreatX2RReduceOthers
set_option linter.unusedVariables false
set_option linter.unusedSimpArgs false
/- What values among the inputs read as. -/
namespace Go.Proofs.YtmccnmahegbmpaaGreat.J
open Go Go.RowKit
set_option maxRecDepth 10000
set_option maxHeartbeats 4000000
theorem V.rd {H : Type} {enc : TypeId × Value → H} {w : World} : ∀ (fuel : Nat) (cs : List Value) (x : DataW H × List MemPlace), trd enc Tryz.prog w fuel 26 cs = some x → Fits Tryz.prog 26 x.1 → ∃ v : V, v.wf ∧ RdC w cs (v.cs false) := by
  intro fuel
  induction fuel using Nat.strongRecOn with
  | _ fuel ih =>
  intro cs x h hf
  obtain ⟨xs, n, rfl, rfl, hl, hlen, hg⟩ := DataW.trod_struct Tryz.underlying26 h
  obtain ⟨y0, y1, y2, y3, y4, rfl⟩ : ∃ y0 y1 y2 y3 y4, xs = [y0, y1, y2, y3, y4] := by
    match xs, hlen with
    | [y0, y1, y2, y3, y4], _ => exact ⟨y0, y1, y2, y3, y4, rfl⟩
  have h0 := hg 0 _ rfl
  obtain ⟨a0, b0, r0⟩ := rd_i64 Tryz.underlying3 h0
  have h1 := hg 1 _ rfl
  obtain ⟨a1, b1, r1⟩ := rd_u64 Tryz.underlying22 h1
  have h2 := hg 2 _ rfl
  obtain ⟨a2, b2, r2⟩ := rd_str Tryz.underlying9 h2 (Fits.field Tryz.underlying26 hf (i := 2) rfl rfl)
  have h3 := hg 3 _ rfl
  obtain ⟨a3, b3, c3, r3⟩ := rd_slice (ei := eStr) (f := fun s => [.c (str s)]) (Wf := fun s => s.length ≤ reach) Tryz.underlying23 (by kernel_rfl) (by kernel_rfl) (by decide) h3 (Fits.field Tryz.underlying26 hf (i := 3) rfl rfl) (fun _ => rfl) (fun m cs' y hm hy hfy => rd_str Tryz.underlying9 hy hfy)
  have h4 := hg 4 _ rfl
  obtain ⟨a4, b4, c4, r4⟩ := rd_slice (ei := eV) (f := V.cs false) (Wf := V.wf) Tryz.underlying24 (by kernel_rfl) (by kernel_rfl) (by decide) h4 (Fits.field Tryz.underlying26 hf (i := 4) rfl rfl) (fun _ => V.cs_length false _) (fun m cs' y hm hy hfy => ih m (by omega) cs' y hy hfy)
  refine ⟨.mk a0 a1 a2 a3 a4, .mk b0 b1 b2 c3 c4 b3 b4, ?_⟩
  have := (RdC.join r0 (by kernel_rfl) (by kernel_rfl) ((RdC.join r1 (by kernel_rfl) (by kernel_rfl) ((RdC.join r2 (by kernel_rfl) (by kernel_rfl) ((RdC.join r3 (by kernel_rfl) (by kernel_rfl) (RdC.last r4 (hl.trans (by kernel_rfl))))))))))
  simpa [V.cs, keysAV, V.css_eq] using this
end Go.Proofs.YtmccnmahegbmpaaGreat.J

/- Owned trees taken apart. -/
namespace Go.Proofs.YtmccnmahegbmpaaGreat.J
open Go Go.RowKit
theorem Reown.msk (ms : List Cd) (own : List Own) {own' : List Own} (h : selP ms own = own') : Reown own own' := by
  subst h
  exact (Reown.perm ((sel_perm ms own).trans List.perm_append_comm)).trans (Reown.drop _ _)
theorem Reown.pair {a b o : Own} {l : List Own} (h : OwnEq (.grp [a, b]) o) : Reown (o :: l) (a :: b :: l) := (Reown.eq h.symm).trans (Reown.open [a, b] l)
theorem Reown.spoil {o1 o2 a b c d : Own} (h1 : OwnEq (.grp [a, b]) o1) (h2 : OwnEq (.grp [c, d]) o2) : Reown [o1, o2] [a, c, d] :=
  (Reown.pair h1).trans ((Reown.cons (Reown.cons (Reown.pair h2))).trans (Reown.msk [.p, .k, .p, .p] _ rfl))
theorem Tr.inv {e : ETy} {xs : List (List AV)} {v : Value} {o : Own} (h : Tr (.sl true false e xs) v o) :
    ∃ cs us o1, cs.flatten = us.map AV.c ∧ cs.length = xs.length ∧ (∀ x ∈ cs, x.length = e.sz) ∧ us.all (·.oneCell') = true ∧ TrL xs.flatten us o1 ∧ OwnEq (.grp [.arr v e cs, o1]) o := by
  cases h with
  | sl h1 h2 h3 h4 h5 h6 h ho => exact ⟨_, _, _, h1, h2, h4, h5, h, ho⟩
theorem Tr.c_inv {u v : Value} {o : Own} (h : Tr (.c u) v o) : v = u := by cases h; rfl
theorem TrL.cons_inv {y : AV} {ys : List AV} {us : List Value} {o : Own} (h : TrL (y :: ys) us o) : ∃ u us' a b, us = u :: us' ∧ Tr y u a ∧ TrL ys us' b ∧ OwnEq (.grp [a, b]) o := by
  cases h with
  | cons h hs ho => exact ⟨_, _, _, _, rfl, h, hs, ho⟩
theorem TrL.nil_inv {us : List Value} {o : Own} (h : TrL [] us o) : us = [] := by cases h; rfl
theorem TrL.value {x : V} {us : List Value} {o : Own} (h : TrL (x.cs true) us o) (h1 : us.all (·.oneCell') = true) : ∃ kv iv ok oi, us = x.vals kv iv ∧ VTr x kv iv ok oi ∧ Reown [o] [ok, oi] := by
  obtain ⟨k, b, t, ks, is⟩ := x
  unfold V.cs at h
  obtain ⟨u0, us0, a0, b0, rfl, g0, h, e0⟩ := h.cons_inv
  obtain ⟨u1, us1, a1, b1, rfl, g1, h, e1⟩ := h.cons_inv
  obtain ⟨u2, us2, a2, b2, rfl, g2, h, e2⟩ := h.cons_inv
  obtain ⟨u3, us3, a3, b3, rfl, g3, h, e3⟩ := h.cons_inv
  obtain ⟨u4, us4, a4, b4, rfl, g4, h, e4⟩ := h.cons_inv
  obtain rfl := h.nil_inv
  obtain rfl := g0.c_inv
  obtain rfl := g1.c_inv
  obtain rfl := g2.c_inv
  simp only [List.all_cons, List.all_nil, Bool.and_eq_true, Bool.and_true] at h1
  refine ⟨u3, u4, a3, a4, rfl, ⟨h1.2.2.2.1, h1.2.2.2.2, g3, g4⟩, ?_⟩
  have s0 : Reown [o] [b0] := (Reown.pair e0).trans (Reown.dropN 1 _ rfl)
  have s1 : Reown [b0] [b1] := (Reown.pair e1).trans (Reown.dropN 1 _ rfl)
  have s2 : Reown [b1] [b2] := (Reown.pair e2).trans (Reown.dropN 1 _ rfl)
  have s3 : Reown [b2] [a3, a4] := (Reown.pair e3).trans ((Reown.cons (Reown.pair e4)).trans (Reown.msk [.p, .p] _ rfl))
  exact s0.trans (s1.trans (s2.trans s3))
theorem flat_first {u1 u2 : List Value} {c : List AV} {cs : List (List AV)} (h : (c :: cs).flatten = (u1 ++ u2).map AV.c) (hl : c.length = u1.length) : c = u1.map AV.c ∧ cs.flatten = u2.map AV.c := by
  rw [List.flatten_cons, List.map_append] at h
  exact List.append_inj h (by simpa using hl)
theorem kids_take {is : List V} {cs : List (List AV)} {us : List Value} {o : Own} {j : Nat} (hlt : j < is.length) (hl : cs.length = is.length) (h3 : ∀ x ∈ cs, x.length = 5) (hf : (cs.drop j).flatten = us.map AV.c) (h1 : us.all (·.oneCell') = true) (h : TrL (V.css true (is.drop j)).flatten us o) :
    ∃ kv iv ok oi us2 o2, cs[j]? = some ((is[j]'hlt).raw kv iv) ∧ VTr (is[j]'hlt) kv iv ok oi ∧ (cs.drop (j + 1)).flatten = us2.map AV.c ∧ us2.all (·.oneCell') = true ∧ TrL (V.css true (is.drop (j + 1))).flatten us2 o2 ∧ Reown [o] [ok, oi, o2] := by
  rw [List.drop_eq_getElem_cons hlt, V.css, List.flatten_cons] at h
  obtain ⟨u1, u2, o1, o2, rfl, g1, g2, g3⟩ := h.split
  rw [List.all_append, Bool.and_eq_true] at h1
  obtain ⟨kv, iv, ok, oi, rfl, hV, hR⟩ := g1.value h1.1
  have hj : j < cs.length := by omega
  rw [List.drop_eq_getElem_cons hj] at hf
  obtain ⟨k1, k2⟩ := flat_first hf (by rw [h3 _ (List.getElem_mem hj)]; rfl)
  refine ⟨kv, iv, ok, oi, u2, o2, by rw [List.getElem?_eq_getElem hj, k1]; rfl, hV, k2, h1.2, g2, ?_⟩
  have s1 : Reown [o] [o1, o2] := Reown.pair g3
  have s2 : Reown [o1, o2] [ok, oi, o2] := (Reown.perm (List.Perm.swap _ _ _)).trans ((Reown.left (c := [o2]) hR).trans (Reown.perm (by
    simpa using (List.perm_append_comm (l₁ := [o2]) (l₂ := [ok, oi])))))
  exact s1.trans s2
end Go.Proofs.YtmccnmahegbmpaaGreat.J

/- Expressions: which may be, how many parts, how deep, which are one; own trees; octets. -/
namespace Go.Proofs.YtmccnmahegbmpaaGreat.J
open Go Go.RowKit
mutual
/-- The first error of a walk, and the parts so far. -/
def EX.chk : EX → Int → Int → Int × Int
  | .mk o b t l, lev, n => if 8 < lev then (10, n) else if 64 ≤ n then (3, n) else if (EX.mk o b t l).ok = false then (9, n) else EX.chks l lev (n + 1)
def EX.chks : List EX → Int → Int → Int × Int
  | [], _, n => (0, n)
  | x :: r, lev, n => if (x.chk (lev + 1) n).1 ≠ 0 then x.chk (lev + 1) n else EX.chks r lev (x.chk (lev + 1) n).2
end
mutual
def EX.depth : EX → Int
  | .mk _ _ _ l => 1 + EX.depths l
def EX.depths : List EX → Int
  | [] => 0
  | x :: r => max x.depth (EX.depths r)
end
def EX.err (v : EX) : Int := (v.chk 1 0).1
def EX.cnt (v : EX) : Int := (v.chk 1 0).2
mutual
theorem EX.chk_bounds : ∀ (v : EX) (lev n : Int), n ≤ (v.chk lev n).2 ∧ (n ≤ 64 → (v.chk lev n).2 ≤ 64)
  | .mk o b t l, lev, n => by
    unfold EX.chk
    split
    · exact ⟨Int.le_refl _, id⟩
    · split
      · exact ⟨Int.le_refl _, id⟩
      · split
        · exact ⟨Int.le_refl _, id⟩
        · have := EX.chks_bounds l lev (n + 1)
          exact ⟨by omega, fun h => this.2 (by omega)⟩
theorem EX.chks_bounds : ∀ (l : List EX) (lev n : Int), n ≤ (EX.chks l lev n).2 ∧ (n ≤ 64 → (EX.chks l lev n).2 ≤ 64)
  | [], lev, n => ⟨Int.le_refl _, id⟩
  | x :: r, lev, n => by
    unfold EX.chks
    have h1 := EX.chk_bounds x (lev + 1) n
    split
    · exact h1
    · have h3 := EX.chks_bounds r lev (x.chk (lev + 1) n).2
      exact ⟨by omega, fun h => h3.2 (h1.2 h)⟩
end
theorem EX.depths_nonneg : ∀ l : List EX, 0 ≤ EX.depths l
  | [] => Int.le_refl _
  | x :: r => by unfold EX.depths; have := EX.depths_nonneg r; omega
mutual
theorem EX.chk_depth : ∀ (v : EX) (lev n : Int), (v.chk lev n).1 = 0 → lev + v.depth ≤ 9 ∧ 1 ≤ v.depth
  | .mk o b t l, lev, n, h => by
    unfold EX.chk at h
    split at h
    · simp at h
    · split at h
      · simp at h
      · split at h
        · simp at h
        · have := EX.chks_depth l lev (n + 1) h
          have h0 := EX.depths_nonneg l
          unfold EX.depth
          omega
theorem EX.chks_depth : ∀ (l : List EX) (lev n : Int), (EX.chks l lev n).1 = 0 → EX.depths l = 0 ∨ lev + EX.depths l ≤ 8
  | [], lev, n, h => .inl rfl
  | x :: r, lev, n, h => by
    unfold EX.chks at h
    split at h
    · rename_i h'; exact absurd h h'
    · rename_i h'
      have h1 := EX.chk_depth x (lev + 1) n (by simpa using h')
      have h2 := EX.chks_depth r lev _ h
      right
      unfold EX.depths
      omega
end
inductive EX.Fine : EX → Prop
  | mk {o : Int} {b : Nat} {t : Str} {l : List EX} (h : (EX.mk o b t l).ok = true) (h' : ∀ x ∈ l, EX.Fine x) : EX.Fine (.mk o b t l)
mutual
theorem EX.fine_chk : ∀ (v : EX) (lev n : Int), (v.chk lev n).1 = 0 → v.Fine
  | .mk o b t l, lev, n, h => by
    unfold EX.chk at h
    split at h
    · simp at h
    · split at h
      · simp at h
      · split at h
        · simp at h
        · rename_i h3
          exact .mk (by simpa using h3) (EX.fine_chks l lev (n + 1) h)
theorem EX.fine_chks : ∀ (l : List EX) (lev n : Int), (EX.chks l lev n).1 = 0 → ∀ x ∈ l, x.Fine
  | [], lev, n, h => fun x hx => by cases hx
  | y :: r, lev, n, h => by
    unfold EX.chks at h
    split at h
    · rename_i h'; exact absurd h h'
    · rename_i h'
      intro x hx
      rcases List.mem_cons.1 hx with hxy | hx
      · rw [hxy]; exact EX.fine_chk _ _ _ (by simpa using h')
      · exact EX.fine_chks r _ _ h x hx
end
theorem EX.fine_of {v : EX} (h : v.err = 0) : v.Fine := EX.fine_chk v 1 0 h
theorem EX.Fine.part {v : EX} (h : v.Fine) : v.ok = true := by cases h; assumption
theorem EX.Fine.kid {v x : EX} (h : v.Fine) (hx : x ∈ v.args) : x.Fine := by cases h with | mk _ h => exact h x hx
theorem EX.ok_bounds {o : Int} {b : Nat} {t : Str} {l : List EX} (h : (EX.mk o b t l).ok = true) : 0 ≤ o ∧ o < 30 ∧ t.length ≤ 128 ∧ l.length ≤ 8 := by
  simp only [EX.ok, Bool.and_eq_true, decide_eq_true_eq] at h
  obtain ⟨⟨⟨⟨⟨h1, -⟩, h2⟩, -⟩, h3⟩, -⟩ := h
  simp only [EX.op, EX.args, EX.text] at h1 h2 h3
  have h4 : 0 ≤ o ∧ o < 30 := by
    by_cases hh : o < 0 ∨ 30 ≤ o
    · exact absurd (by unfold argsN; rw [if_pos hh]) h1
    · omega
  have h5 : textHi o ≤ 128 := by unfold textHi; repeat' split <;> omega
  exact ⟨h4.1, h4.2, by omega, by omega⟩
/-! ### own trees -/
def EX.raw (v : EX) (iv : Value) : List AV := [.c (.int .i64 v.op), .c (.int .u64 (v.bits : Int)), .c (str v.text), .c iv]
def EX.vals (v : EX) (iv : Value) : List Value := [.int .i64 v.op, .int .u64 (v.bits : Int), str v.text, iv]
theorem EX.raw_eq (v : EX) (iv : Value) : v.raw iv = (v.vals iv).map AV.c := rfl
structure ETr (v : EX) (iv : Value) (oi : Own) : Prop where
  i1 : iv.oneCell' = true
  is : Tr (.sl true false eEX (EX.css true v.args)) iv oi
theorem ETr.trL {v : EX} {iv : Value} {oi : Own} (h : ETr v iv oi) : TrL (v.cs true) (v.vals iv) oi := by
  obtain ⟨o, b, t, l⟩ := v
  have hn : TrL [] [] (.grp []) := .nil (.refl _)
  refine .cons (.c (.refl _)) (.cons (.c (.refl _)) (.cons (.c (.refl _)) (.cons h.is hn (o'' := oi) ?_) (.drops _)) (.drops _)) (.drops _)
  exact (OwnEq.grp_perm (List.Perm.swap _ _ _)).trans (.drops _)
theorem ETr.ones {v : EX} {iv : Value} {oi : Own} (h : ETr v iv oi) : (v.vals iv).all (·.oneCell') = true := by
  simp [EX.vals, h.i1]
  exact ⟨rfl, rfl, rfl⟩
theorem eargs_tr {v : Value} {is : List EX} {cells : List (List AV)} {us : List Value} {o : Own} (h1 : cells.flatten = us.map AV.c) (h2 : cells.length = is.length) (h3 : ∀ x ∈ cells, x.length = 4) (h5 : us.all (·.oneCell') = true) (h6 : is.length * 56 ≤ reach)
    (h : TrL (EX.css true is).flatten us o) : Tr (.sl true false eEX (EX.css true is)) v (.grp [.arr v eEX cells, o]) :=
  .sl h1 (by rw [h2, EX.css_length]) (EX.css_sz true is) h3 h5 (by rw [EX.css_length]; exact h6) h (.refl _)
def CopyE (v : EX) : AV → List Own → Prop := fun x o => ∃ iv oi, x = .agg (v.raw iv) ∧ o = [oi] ∧ ETr v iv oi
structure EKids (is : List EX) (cells : List (List AV)) (us : List Value) (o : Own) : Prop where
  h1 : cells.flatten = us.map AV.c
  h2 : cells.length = is.length
  h3 : ∀ x ∈ cells, x.length = 4
  h5 : us.all (·.oneCell') = true
  h : TrL (EX.css true is).flatten us o
theorem EKids.nil : EKids [] [] [] (.grp []) := ⟨rfl, rfl, (fun _ h => by cases h), rfl, .nil (.refl _)⟩
theorem EKids.snoc {is : List EX} {cells : List (List AV)} {us : List Value} {o oi : Own} {v : EX} {iv : Value} (h : EKids is cells us o) (hv : ETr v iv oi) : EKids (is ++ [v]) (cells ++ [v.raw iv]) (us ++ v.vals iv) (.grp [o, oi]) := by
  refine ⟨by simp [h.h1, EX.raw_eq], by simp [h.h2], fun x hx => ?_, by rw [List.all_append, h.h5, hv.ones]; rfl, ?_⟩
  · rcases List.mem_append.1 hx with hx | hx
    · exact h.h3 x hx
    · simp only [List.mem_singleton] at hx; subst hx; rfl
  · rw [EX.css_append, List.flatten_append]
    refine h.h.append ?_ (.refl _)
    simpa [EX.css] using hv.trL
theorem EKids.tr {is : List EX} {cells : List (List AV)} {us : List Value} {o : Own} (h : EKids is cells us o) {v : Value} (h6 : is.length * 56 ≤ reach) : Tr (.sl true false eEX (EX.css true is)) v (.grp [.arr v eEX cells, o]) :=
  eargs_tr h.h1 h.h2 h.h3 h.h5 h6 h.h
theorem EX.raw_le {F : List (Value × AV)} {v : EX} {iv : Value} {fr : Bool} (hi : (iv, .sl fr false eEX (EX.css fr v.args)) ∈ F) : Le F (.agg (v.raw iv)) (.agg (v.cs fr)) := by
  obtain ⟨o, b, t, l⟩ := v
  exact .aggL (.cons (.refl _) (.cons (.refl _) (.cons (.refl _) (.cons (.fact hi (.refl _)) .nil))))
theorem ETr.closG {v : EX} {iv : Value} {oi : Own} (h : ETr v iv oi) (w : World) (A : Foot) (hok : ∀ y ∈ [oi], y.ok w A) (hb : ∀ b ∈ fps [oi], ∀ fr, A fr b) :
    ∀ p ∈ [(iv, AV.sl true false eEX (EX.css true v.args))], Rd w A p.1 p.2 := fun p hp => by
  obtain rfl := List.mem_singleton.1 hp
  simp only [fps_cons, fps_nil, List.append_nil] at hb
  exact h.is.rd (hok _ (by simp)) fun b hb' => hb b hb' true
theorem Fn.ofCopyE {P : Program} {f : FuncId} {xs : List AV} {v : EX} (h : AC P f [] xs (RetR (CopyE v))) : Fn P f xs (.agg (v.cs true)) :=
  Fn.close h fun x o ⟨iv, oi, hx, ho, hV⟩ => by
    subst hx ho
    exact ⟨_, hV.closG, EX.raw_le (by simp)⟩
end Go.Proofs.YtmccnmahegbmpaaGreat.J

/- A number's eight octets. -/
namespace Go.Proofs.YtmccnmahegbmpaaGreat.J
open Go Go.RowKit
/-! ### octets of expressions -/
end Go.Proofs.YtmccnmahegbmpaaGreat.J

/- Walks: numbers (the package float), first part. -/
namespace Go.Proofs.YtmccnmahegbmpaaGreat.J
open Go Go.RowKit
set_option maxRecDepth 10000
set_option maxHeartbeats 4000000
theorem of_ok (b : Nat) : Fn Tryz.prog 81 [.c (flt b)] (.c (.int .u64 (canonN b : Int))) := by
  refine AC.of_J Tryz.func81 rfl Tryz.ntmps81 rfl fun w0 A0 => ?_
  refine Zs (Zq rfl (QW.assign .const) (Zn (J.seq (Zs (Zq rfl (QW.move (.tmp rfl)) (Zq rfl (QW.move (.tmp rfl)) (Zq rfl (QW.neq_f (.tmp rfl) (.tmp rfl)) (Zn ?_))))))))
  refine J.cond (.tmp rfl) (fun c1 => ?_) (fun c1 => ?_)
  · skip
    refine Zs (Zq rfl (QW.assign .const) (Zn (J.ret (thenQ.r ?_))))
    exact ⟨_, [], _, RetEv.one rfl (REv.tmp rfl lr), rfl, List.Perm.refl _, by rw [fneq_self] at c1; simp [canonN, c1, oneNan], rfl⟩
  · skip
    refine Zk (Zs (Zq rfl (QW.move (.tmp rfl)) (Zq rfl (QW.ext (extBits _) (.tmp rfl)) (Zq rfl (QW.assign (.tmp rfl)) (Zn (J.ret ?_))))))
    exact ⟨_, [], _, RetEv.one rfl (REv.tmp rfl lr), rfl, List.Perm.refl _, by rw [fneq_self] at c1; simp [canonN, c1], rfl⟩
theorem canon_ok (b : Nat) : Fn Tryz.prog 70 [.c (.int .u64 (b : Int))] (.c (.int .u64 (canonN b : Int))) := by
  refine AC.of_J Tryz.func70 rfl Tryz.ntmps70 rfl fun w0 A0 => ?_
  refine Zs (Zq rfl (QW.assign .const) (Zn (Zs (Zq rfl (QW.move (.tmp rfl)) (Zq rfl (QW.ext (extFrom _) (.tmp rfl)) (Zq rfl (QW.call gofn81 (.cons (.tmp rfl) .nil) (by (apply of_ok <;> first | assumption | omega))) ?_))))))
  refine Zq rfl (QW.assign (.tmp rfl)) (Zn (J.ret ?_))
  exact ⟨_, [], _, RetEv.one rfl (REv.tmp rfl lr), rfl, List.Perm.refl _, rfl, rfl⟩
end Go.Proofs.YtmccnmahegbmpaaGreat.J

/- Walks: the page's own classes of numbers (the package fanlightref01), for the seats that reach no more of it. -/
namespace Go.Proofs.YtmccnmahegbmpaaGreat.J
open Go Go.RowKit
set_option maxRecDepth 10000
set_option maxHeartbeats 4000000
end Go.Proofs.YtmccnmahegbmpaaGreat.J

/- Walks: the value package, one part. -/
namespace Go.Proofs.YtmccnmahegbmpaaGreat.J
open Go Go.RowKit
set_option maxRecDepth 10000
set_option maxHeartbeats 4000000
theorem key_ok (s : Str) : Fn Tryz.prog 83 [.c (str s)] (.c (.bool (keyOk s))) := by
  refine AC.of_J Tryz.func83 rfl Tryz.ntmps83 rfl fun w0 A0 => ?_
  refine Zs (Zq rfl (QW.assign .const) (Zn (Zs (Zq rfl (QW.move (.tmp rfl)) (Zq rfl (QW.neq_s (.tmp rfl) .const) (Zq rfl (QW.move (.tmp rfl)) (Zg rfl (fun hg => (QW.move (.tmp rfl))) (Zg rfl (fun hg => (QW.len_s st9 (.when rfl hg))) (Zg rfl (fun hg => (QW.leq (.when rfl hg) .const)) ?_)))))))))
  exact Zq rfl (QW.pick_and (.tmp rfl) (.tmp rfl)) (Zq rfl (QW.assign (.tmp rfl)) (Zn (J.ret (Zr [] (RetEv.one rfl (REv.tmp rfl lr)) rfl ⟨by simp only [keyOk]; congr 3; rw [Bool.eq_iff_iff]; cases s <;> simp [bne] <;> omega, rfl⟩))))
theorem keysAV_getD {ks : List Str} {i : Nat} (h : i < ks.length) : (keysAV ks)[i]? = some [.c (str (ks.getD i []))] := by simp [keysAV, h]
theorem bytesLess_tri : ∀ (a b : List UInt8), (Op.bytesLess a b || a == b) = !Op.bytesLess b a
  | [], [] => by simp [Op.bytesLess]
  | [], y :: b => by simp [Op.bytesLess]
  | x :: a, [] => by simp [Op.bytesLess]
  | x :: a, y :: b => by
    have ih := bytesLess_tri a b
    simp only [Op.bytesLess]
    by_cases h : x < y
    · have h' : ¬ y < x := fun h' => by have := UInt8.lt_iff_toNat_lt.1 h; have := UInt8.lt_iff_toNat_lt.1 h'; omega
      have hne : (y == x) = false := by simp; intro e; subst e; exact h' h
      simp [h, h', hne]
    · by_cases he : x = y
      · subst he
        simpa [h] using ih
      · have h' : y < x := by
          have hn : ¬ x.toNat < y.toNat := fun hh => h (UInt8.lt_iff_toNat_lt.2 hh)
          have hn2 : x.toNat ≠ y.toNat := fun hh => he (UInt8.toNat_inj.1 hh)
          exact UInt8.lt_iff_toNat_lt.2 (by omega)
        have hne : (x == y) = false := by simpa using he
        simp [h, h', hne]
theorem keys_ok (fr : Bool) (l : List Str) (hl : l.length ≤ 9223372036854775806) : Fn Tryz.prog 71 [.sl fr false eStr (keysAV l)] (.c (.bool (keysOk l))) := by
  refine AC.of_J Tryz.func71 rfl Tryz.ntmps71 rfl fun w0 A0 => ?_
  refine Zs (Zq rfl (QW.assign .const) (Zn (J.seq (Zs (Zq rfl (QW.move (.tmp rfl)) (Zq rfl (QW.len_sl sl23 (.tmp rfl)) (Zq rfl (QW.move .const) (Zn (J.block ?_)))))))))
  refine J.loopK (ι := Nat) [0, 5, 6] (fun k => [(7, .c (.int .i64 (k : Int)))]) (fun _ oo => oo) (fun k => k ≤ l.length ∧ (List.range k).all (keyAt l) = true) (fun k => l.length - k) 0 (by simp) (Wk.re (.cons rfl lr (.cons rfl lr (.cons rfl lr (.cons rfl lr .nil)))) (Reown.refl _) (fun _ h => by first | exact h | simp [h])) ?_
  intro k ⟨hk, hall⟩
  refine J.conv (by (try simp only [nl, stepsO, valO, nthO, curO, mrg, AV.cellsOf, splice_zero, splice_succ, Nat.reduceAdd]); rfl) ?_
  refine Zs (Zq rfl (QW.lss (.tmp rfl) (.tmp rfl)) (Zn (J.seq ?_)))
  refine J.cond (.tmp rfl) (fun c1 => ?_) (fun c1 => ?_)
  · skip
    simp [keysAV_length] at c1
    refine Zk (J.seq (J.block (Zs (Zq rfl (QW.move (.tmp rfl)) (Zq rfl (QW.index_sl sl23 ty9 rfl (.tmp rfl) (.tmp rfl) rfl (by exact keysAV_getD (by omega))) ?_)))))
    refine Zq rfl (QW.load_ref1 ty9 (.tmp rfl) rfl) (Zq rfl (QW.assign (.tmp rfl)) (Zq rfl (QW.assign (.tmp rfl)) (Zn (Zs (Zq rfl (QW.move (.tmp rfl)) (Zq rfl (QW.call gofn83 (.cons (.tmp rfl) .nil) (key_ok _)) (Zq rfl (QW.not (.tmp rfl)) (Zq rfl (QW.move (.tmp rfl)) (Zg rfl (fun hg => (QW.move (.tmp rfl))) ?_)))))))))
    refine Zg rfl (fun hg => (QW.gtr (.when rfl hg) .const)) (Zg rfl (fun hg => (QW.move (.when rfl hg))) (JL.gg rfl rfl rfl rfl rfl (fun hg => (QW.move (.tmp rfl))) (JL.gg rfl rfl rfl rfl rfl (fun hg => (QW.move (.tmp rfl))) (JL.gg rfl rfl rfl rfl rfl (fun hg => (QW.sub (.when rfl hg) .const (w64 (by omega)))) (JL.gg rfl rfl rfl rfl rfl (fun hg => QW.index_sl (m := k - 1) sl23 ty9 rfl (.when rfl hg) (.when rfl hg) (by simp at hg; omega) (keysAV_getD (by omega))) ?_)))))
    refine JL.gg rfl rfl rfl rfl rfl (fun hg => (QW.load_ref1 ty9 (.when rfl hg) rfl)) (JL.gg rfl rfl rfl rfl rfl (fun hg => (QW.move (.tmp rfl))) (JL.gg rfl rfl rfl rfl rfl (fun hg => (QW.geq_s (.when rfl hg) (.when rfl hg))) (Zg rfl (fun hg => (QW.pick_and2 hg (.when rfl hg) (.tmp rfl))) (Zq rfl (QW.pick_or (.tmp rfl) (.tmp rfl)) (Zn ?_)))))
    refine J.cond (.tmp rfl) (fun c2 => ?_) (fun c2 => ?_)
    · skip
      have hbad : keyAt l k = false := by
        simp [keyAt] at c2 ⊢
        grind
      exact Zs (Zq rfl (QW.assign .const) (Zn (J.ret (blkQ.r (thenQ.r (thenQ.r (blkQ.r (thenQ.r (Zr [] (RetEv.one rfl (REv.tmp rfl lr)) rfl ⟨by rw [keysOk, all_range_false (by omega) hbad], rfl⟩)))))))))
    have hgood : keyAt l k = true := by
      simp [keyAt] at c2 ⊢
      grind
    refine J.skip (blkQ.n (thenQ.n (J.region_lit (Zq rfl (QW.add (.tmp rfl) .const (w64 (by omega))) (Zq rfl (QW.move (.tmp rfl)) (Zn ?_))))))
    exact ⟨k + 1, ⟨by omega, all_range_succ hall hgood⟩, by omega, Wk.re (.cons rfl lr (.cons rfl lr (.cons rfl lr (.cons rfl lr .nil)))) (Reown.refl _) (fun _ h => by first | exact h | simp [h])⟩
  simp [keysAV_length] at c1
  exact J.exit (thenQ.x (thenQ.x (blkQ.hit (thenQ.n (Zs (Zq rfl (QW.assign .const) (Zn (J.ret (Zr [] (RetEv.one rfl (REv.tmp rfl lr)) rfl ⟨by rw [keysOk, show l.length = k by omega, hall], rfl⟩)))))))))
def bareOk : V → Bool
  | .mk k b t ks is => (k == 1 || k == 2 || b == 0) && (k == 3 || t == []) && (k == 5 || ks.length == 0) && (!(k == 0 || k == 1 || k == 2 || k == 3) || is.length == 0)
theorem bare_ok {fr : Bool} {v : V} {ys : List AV} (hv : Vc fr v ys) : Fn Tryz.prog 69 [.agg ys] (.c (.bool (bareOk v))) := by
  obtain ⟨k, b, t, ks, is⟩ := v
  subst hv
  refine AC.of_J Tryz.func69 rfl Tryz.ntmps69 rfl fun w0 A0 => ?_
  refine Zs (JL.box_agg (.tmp rfl) rfl fun b1 => Zq rfl (QW.assign .const) (Zn (Zs (Zq rfl (QW.field_ptr fo26_0 (.tmp rfl) rfl) (Zq rfl (QW.load_box1 0 ty3 (.tmp rfl) rfl rfl) (Zq rfl (QW.eql (.tmp rfl) .const) (Zq rfl (QW.move (.tmp rfl)) (Zg rfl (fun hg => (QW.field_ptr fo26_0 (.tmp rfl) rfl)) ?_))))))))
  refine Zg rfl (fun hg => (QW.load_box1 0 ty3 (.when rfl hg) rfl rfl)) (Zg rfl (fun hg => (QW.eql (.when rfl hg) .const)) (Zq rfl (QW.pick_or (.tmp rfl) (.tmp rfl)) (Zq rfl (QW.move (.tmp rfl)) (Zg rfl (fun hg => (QW.field_ptr fo26_0 (.tmp rfl) rfl)) (Zg rfl (fun hg => (QW.load_box1 0 ty3 (.when rfl hg) rfl rfl)) (Zg rfl (fun hg => (QW.eql (.when rfl hg) .const)) (Zq rfl (QW.pick_or (.tmp rfl) (.tmp rfl)) (Zq rfl (QW.assign (.tmp rfl)) (Zn ?_)))))))))
  refine J.seq (J.block (Zs (Zq rfl (QW.field_ptr fo26_0 (.tmp rfl) rfl) (Zq rfl (QW.load_box1 0 ty3 (.tmp rfl) rfl rfl) (Zq rfl (QW.neq (.tmp rfl) .const) (Zq rfl (QW.move (.tmp rfl)) (Zg rfl (fun hg => (QW.field_ptr fo26_0 (.tmp rfl) rfl)) (Zg rfl (fun hg => (QW.load_box1 0 ty3 (.when rfl hg) rfl rfl)) (Zg rfl (fun hg => (QW.neq (.when rfl hg) .const)) ?_)))))))))
  refine Zq rfl (QW.pick_and (.tmp rfl) (.tmp rfl)) (Zq rfl (QW.move (.tmp rfl)) (Zg rfl (fun hg => (QW.field_ptr fo26_1 (.tmp rfl) rfl)) (Zg rfl (fun hg => (QW.load_box1 0 ty22 (.when rfl hg) rfl rfl)) (Zg rfl (fun hg => (QW.neq (.when rfl hg) .const)) (Zq rfl (QW.pick_and (.tmp rfl) (.tmp rfl)) (Zq rfl (QW.assign (.tmp rfl)) (Zn ?_)))))))
  refine J.cond (.tmp rfl) (fun c1 => ?_) (fun c1 => ?_)
  · skip
    exact J.skip (blkQ.n (thenQ.n (Zs (Zq rfl (QW.assign .const) (Zn (J.ret (Zr [.k] (RetEv.one rfl (REv.tmp rfl lr)) rfl ⟨by simp only [bareOk]; congr 2; simp [V.css_length, keysAV_length] at *; grind, rfl⟩)))))))
  refine Zs (Zq rfl (QW.field_ptr fo26_0 (.tmp rfl) rfl) (Zq rfl (QW.load_box1 0 ty3 (.tmp rfl) rfl rfl) (Zq rfl (QW.neq (.tmp rfl) .const) (Zq rfl (QW.move (.tmp rfl)) (Zg rfl (fun hg => (QW.field_ptr fo26_2 (.tmp rfl) rfl)) (Zg rfl (fun hg => (QW.load_box1 0 ty9 (.when rfl hg) rfl rfl)) (Zg rfl (fun hg => (QW.neq_s (.when rfl hg) .const)) (Zq rfl (QW.pick_and (.tmp rfl) (.tmp rfl)) (Zq rfl (QW.assign (.tmp rfl)) ?_)))))))))
  refine Zn ?_
  refine J.cond (.tmp rfl) (fun c2 => ?_) (fun c2 => ?_)
  · skip
    exact J.skip (blkQ.n (thenQ.n (Zs (Zq rfl (QW.assign .const) (Zn (J.ret (Zr [.k] (RetEv.one rfl (REv.tmp rfl lr)) rfl ⟨by simp only [bareOk]; congr 2; simp [V.css_length, keysAV_length] at *; grind, rfl⟩)))))))
  refine Zs (Zq rfl (QW.field_ptr fo26_0 (.tmp rfl) rfl) (Zq rfl (QW.load_box1 0 ty3 (.tmp rfl) rfl rfl) (Zq rfl (QW.neq (.tmp rfl) .const) (Zq rfl (QW.move (.tmp rfl)) (Zg rfl (fun hg => (QW.field_ptr fo26_3 (.tmp rfl) rfl)) (Zg rfl (fun hg => (QW.load_box1 0 ty23 (.when rfl hg) rfl rfl)) (Zg rfl (fun hg => (QW.len_sl sl23 (.when rfl hg))) (Zg rfl (fun hg => (QW.gtr (.when rfl hg) .const)) (Zq rfl (QW.pick_and (.tmp rfl) (.tmp rfl)) ?_)))))))))
  refine Zq rfl (QW.assign (.tmp rfl)) (Zn ?_)
  refine J.cond (.tmp rfl) (fun c3 => ?_) (fun c3 => ?_)
  · skip
    exact J.skip (blkQ.n (thenQ.n (Zs (Zq rfl (QW.assign .const) (Zn (J.ret (Zr [.k] (RetEv.one rfl (REv.tmp rfl lr)) rfl ⟨by simp only [bareOk]; congr 2; simp [V.css_length, keysAV_length] at *; grind, rfl⟩)))))))
  refine Zs (Zq rfl (QW.move (.tmp rfl)) (Zq rfl (QW.move (.tmp rfl)) (Zg rfl (fun hg => (QW.field_ptr fo26_0 (.tmp rfl) rfl)) (Zg rfl (fun hg => (QW.load_box1 0 ty3 (.when rfl hg) rfl rfl)) (Zg rfl (fun hg => (QW.eql (.when rfl hg) .const)) (Zq rfl (QW.pick_or (.tmp rfl) (.tmp rfl)) (Zq rfl (QW.move (.tmp rfl)) (Zg rfl (fun hg => (QW.field_ptr fo26_4 (.tmp rfl) rfl)) (Zg rfl (fun hg => (QW.load_box1 0 ty24 (.when rfl hg) rfl rfl)) ?_)))))))))
  refine Zg rfl (fun hg => (QW.len_sl sl24 (.when rfl hg))) (Zg rfl (fun hg => (QW.gtr (.when rfl hg) .const)) (Zq rfl (QW.pick_and (.tmp rfl) (.tmp rfl)) (Zq rfl (QW.assign (.tmp rfl)) (Zn ?_))))
  refine J.cond (.tmp rfl) (fun c4 => ?_) (fun c4 => ?_)
  · skip
    exact J.skip (blkQ.n (thenQ.n (Zs (Zq rfl (QW.assign .const) (Zn (J.ret (Zr [.k] (RetEv.one rfl (REv.tmp rfl lr)) rfl ⟨by simp only [bareOk]; congr 2; simp [V.css_length, keysAV_length] at *; grind, rfl⟩)))))))
  exact Zs (Zq rfl (QW.assign .const) (Zn (J.ret (blkQ.r (thenQ.r (Zr [.k] (RetEv.one rfl (REv.tmp rfl lr)) rfl ⟨by simp only [bareOk]; congr 2; simp [V.css_length, keysAV_length] at *; grind, rfl⟩))))))
theorem part_ok {fr : Bool} {v : V} {ys : List AV} (hv : Vc fr v ys) (hw : v.wf) : Fn Tryz.prog 59 [.agg ys] (.c (.bool (partOk v))) := by
  obtain ⟨k, b, t, ks, is⟩ := v
  subst hv
  obtain ⟨-, -, -, hk16, -, -, -⟩ := hw.inv
  refine AC.of_J Tryz.func59 rfl Tryz.ntmps59 rfl fun w0 A0 => ?_
  refine Zs (JL.box_agg (.tmp rfl) rfl fun b1 => Zq rfl (QW.assign .const) (Zn (J.seq (Zs (Zq rfl (QW.load_box 0 ty26 (.tmp rfl) rfl rfl rfl) (Zq rfl (QW.call gofn69 (.cons (.tmp rfl) .nil) (bare_ok Vc.mk)) (Zq rfl (QW.not (.tmp rfl)) (Zq rfl (QW.move (.tmp rfl)) ?_))))))))
  refine Zg rfl (fun hg => (QW.field_ptr fo26_4 (.tmp rfl) rfl)) (Zg rfl (fun hg => (QW.load_box1 0 ty24 (.when rfl hg) rfl rfl)) (Zg rfl (fun hg => (QW.len_sl sl24 (.when rfl hg))) (Zg rfl (fun hg => (QW.gtr (.when rfl hg) .const)) (Zq rfl (QW.pick_or (.tmp rfl) (.tmp rfl)) (Zn ?_)))))
  refine J.cond (.tmp rfl) (fun c1 => ?_) (fun c1 => ?_)
  · skip
    exact Zs (Zq rfl (QW.assign .const) (Zn (J.ret (thenQ.r (Zr [.k] (RetEv.one rfl (REv.tmp rfl lr)) rfl ⟨by simp only [partOk]; congr 2; simp [V.css_length, keysAV_length, bareOk] at *; grind, rfl⟩)))))
  refine Zk (J.seq (Zs (Zq rfl (QW.field_ptr fo26_0 (.tmp rfl) rfl) (Zq rfl (QW.load_box1 0 ty3 (.tmp rfl) rfl rfl) (Zn (J.block (J.seq (Zs (Zq rfl (QW.eql (.tmp rfl) .const) ?_)))))))))
  refine Zq rfl (QW.assign (.tmp rfl)) (Zn ?_)
  refine J.cond (.tmp rfl) (fun c2 => ?_) (fun c2 => ?_)
  · skip
    refine Zk ?_
    refine J.cond (.tmp rfl) (fun c3 => ?_) (fun c3 => ?_)
    · skip
      exact Zs (Zq rfl (QW.assign .const) (Zn (J.ret (blkQ.r (thenQ.r (Zr [.k] (RetEv.one rfl (REv.tmp rfl lr)) rfl ⟨by simp only [partOk]; congr 2; simp [V.css_length, keysAV_length, bareOk] at *; grind, rfl⟩))))))
    refine Zs (Zq rfl (QW.eql (.tmp rfl) .const) (Zq rfl (QW.assign (.tmp rfl)) (Zn ?_)))
    refine J.cond (.tmp rfl) (fun c4 => ?_) (fun c4 => ?_)
    · skip
      exact Zs (Zq rfl (QW.field_ptr fo26_1 (.tmp rfl) rfl) (Zq rfl (QW.load_box1 0 ty22 (.tmp rfl) rfl rfl) (Zq rfl (QW.leq (.tmp rfl) .const) (Zq rfl (QW.assign (.tmp rfl)) (Zn (J.ret (blkQ.r (thenQ.r (Zr [.k] (RetEv.one rfl (REv.tmp rfl lr)) rfl ⟨by simp only [partOk]; congr 2; simp [V.css_length, keysAV_length, bareOk] at *; grind, rfl⟩)))))))))
    refine Zs (Zq rfl (QW.eql (.tmp rfl) .const) (Zq rfl (QW.assign (.tmp rfl)) (Zn ?_)))
    refine J.cond (.tmp rfl) (fun c5 => ?_) (fun c5 => ?_)
    · skip
      refine J.seq (J.region_tailK 5 mixed (by kernel_rfl) (by kernel_rfl) (by kernel_rfl) rfl ?_)
      refine .cons [] rfl rfl rfl (.q rfl (QW.field_ptr fo26_1 (.tmp rfl) rfl)) ?_
      refine .cons [24] rfl rfl rfl (.q rfl (QW.load_box1 0 ty22 (.tmp rfl) rfl rfl)) ?_
      refine .cons [25] rfl rfl rfl (.q rfl (QW.call gofn70 (.cons (.tmp rfl) .nil) (canon_ok _))) ?_
      refine .cons [] rfl rfl rfl (.q rfl (QW.field_ptr fo26_1 (.tmp rfl) rfl)) ?_
      refine .cons [27] rfl rfl rfl (.q rfl (QW.load_box1 0 ty22 (.tmp rfl) rfl rfl)) ?_
      refine .nil ?_
      exact Zq rfl (QW.eql (.tmp rfl) (.tmp rfl)) (Zq rfl (QW.assign (.tmp rfl)) (Zn (J.ret (blkQ.r (thenQ.r (Zr [.k] (RetEv.one rfl (REv.tmp rfl lr)) rfl ⟨by simp only [partOk]; congr 2; simp [V.css_length, keysAV_length, bareOk] at *; grind, rfl⟩))))))
    refine Zs (Zq rfl (QW.eql (.tmp rfl) .const) (Zq rfl (QW.assign (.tmp rfl)) (Zn ?_)))
    refine J.cond (.tmp rfl) (fun c6 => ?_) (fun c6 => ?_)
    · skip
      exact Zs (Zq rfl (QW.field_ptr fo26_2 (.tmp rfl) rfl) (Zq rfl (QW.load_box1 0 ty9 (.tmp rfl) rfl rfl) (Zq rfl (QW.len_s st9 (.tmp rfl)) (Zq rfl (QW.leq (.tmp rfl) .const) (Zq rfl (QW.assign (.tmp rfl)) (Zn (J.ret (blkQ.r (thenQ.r (Zr [.k] (RetEv.one rfl (REv.tmp rfl lr)) rfl ⟨by simp only [partOk]; congr 2; simp [V.css_length, keysAV_length, bareOk] at *; grind, rfl⟩))))))))))
    refine Zs (Zq rfl (QW.eql (.tmp rfl) .const) (Zq rfl (QW.assign (.tmp rfl)) (Zn ?_)))
    refine J.cond (.tmp rfl) (fun c7 => ?_) (fun c7 => ?_)
    · skip
      refine Zs (Zq rfl (QW.field_ptr fo26_3 (.tmp rfl) rfl) (Zq rfl (QW.load_box1 0 ty23 (.tmp rfl) rfl rfl) (Zq rfl (QW.len_sl sl23 (.tmp rfl)) (Zq rfl (QW.field_ptr fo26_4 (.tmp rfl) rfl) (Zq rfl (QW.load_box1 0 ty24 (.tmp rfl) rfl rfl) (Zq rfl (QW.len_sl sl24 (.tmp rfl)) (Zq rfl (QW.eql (.tmp rfl) (.tmp rfl)) (Zq rfl (QW.move (.tmp rfl)) (Zg rfl (fun hg => (QW.field_ptr fo26_3 (.tmp rfl) rfl)) ?_)))))))))
      refine Zg rfl (fun hg => (QW.load_box1 0 ty23 (.when rfl hg) rfl rfl)) (Zg rfl (fun hg => (QW.call gofn71 (.cons (.when rfl hg) .nil) (keys_ok _ _ (by unfold reach at *; omega)))) ?_)
      exact Zq rfl (QW.pick_and (.tmp rfl) (.tmp rfl)) (Zq rfl (QW.assign (.tmp rfl)) (Zn (J.ret (blkQ.r (thenQ.r (Zr [.k] (RetEv.one rfl (REv.tmp rfl lr)) rfl ⟨by simp only [partOk]; congr 2; simp [V.css_length, keysAV_length, bareOk] at *; grind, rfl⟩))))))
    exact J.skip (blkQ.n (thenQ.n (Zs (Zq rfl (QW.assign .const) (Zn (J.ret (Zr [.k] (RetEv.one rfl (REv.tmp rfl lr)) rfl ⟨by simp only [partOk]; congr 2; simp [V.css_length, keysAV_length, bareOk] at *; grind, rfl⟩)))))))
  refine J.region_lit (Zq rfl (QW.eql (.tmp rfl) .const) (Zq rfl (QW.assign (.tmp rfl)) (Zn ?_)))
  refine J.cond (.tmp rfl) (fun c3 => ?_) (fun c3 => ?_)
  · skip
    exact Zs (Zq rfl (QW.assign .const) (Zn (J.ret (blkQ.r (thenQ.r (Zr [.k] (RetEv.one rfl (REv.tmp rfl lr)) rfl ⟨by simp only [partOk]; congr 2; simp [V.css_length, keysAV_length, bareOk] at *; grind, rfl⟩))))))
  refine Zs (Zq rfl (QW.eql (.tmp rfl) .const) (Zq rfl (QW.assign (.tmp rfl)) (Zn ?_)))
  refine J.cond (.tmp rfl) (fun c4 => ?_) (fun c4 => ?_)
  · skip
    exact Zs (Zq rfl (QW.field_ptr fo26_1 (.tmp rfl) rfl) (Zq rfl (QW.load_box1 0 ty22 (.tmp rfl) rfl rfl) (Zq rfl (QW.leq (.tmp rfl) .const) (Zq rfl (QW.assign (.tmp rfl)) (Zn (J.ret (blkQ.r (thenQ.r (Zr [.k] (RetEv.one rfl (REv.tmp rfl lr)) rfl ⟨by simp only [partOk]; congr 2; simp [V.css_length, keysAV_length, bareOk] at *; grind, rfl⟩)))))))))
  refine Zs (Zq rfl (QW.eql (.tmp rfl) .const) (Zq rfl (QW.assign (.tmp rfl)) (Zn ?_)))
  refine J.cond (.tmp rfl) (fun c5 => ?_) (fun c5 => ?_)
  · skip
    refine J.seq (J.region_tailK 5 mixed (by kernel_rfl) (by kernel_rfl) (by kernel_rfl) rfl ?_)
    refine .cons [] rfl rfl rfl (.q rfl (QW.field_ptr fo26_1 (.tmp rfl) rfl)) ?_
    refine .cons [24] rfl rfl rfl (.q rfl (QW.load_box1 0 ty22 (.tmp rfl) rfl rfl)) ?_
    refine .cons [25] rfl rfl rfl (.q rfl (QW.call gofn70 (.cons (.tmp rfl) .nil) (canon_ok _))) ?_
    refine .cons [] rfl rfl rfl (.q rfl (QW.field_ptr fo26_1 (.tmp rfl) rfl)) ?_
    refine .cons [27] rfl rfl rfl (.q rfl (QW.load_box1 0 ty22 (.tmp rfl) rfl rfl)) ?_
    refine .nil ?_
    exact Zq rfl (QW.eql (.tmp rfl) (.tmp rfl)) (Zq rfl (QW.assign (.tmp rfl)) (Zn (J.ret (blkQ.r (thenQ.r (Zr [.k] (RetEv.one rfl (REv.tmp rfl lr)) rfl ⟨by simp only [partOk]; congr 2; simp [V.css_length, keysAV_length, bareOk] at *; grind, rfl⟩))))))
  refine Zs (Zq rfl (QW.eql (.tmp rfl) .const) (Zq rfl (QW.assign (.tmp rfl)) (Zn ?_)))
  refine J.cond (.tmp rfl) (fun c6 => ?_) (fun c6 => ?_)
  · skip
    exact Zs (Zq rfl (QW.field_ptr fo26_2 (.tmp rfl) rfl) (Zq rfl (QW.load_box1 0 ty9 (.tmp rfl) rfl rfl) (Zq rfl (QW.len_s st9 (.tmp rfl)) (Zq rfl (QW.leq (.tmp rfl) .const) (Zq rfl (QW.assign (.tmp rfl)) (Zn (J.ret (blkQ.r (thenQ.r (Zr [.k] (RetEv.one rfl (REv.tmp rfl lr)) rfl ⟨by simp only [partOk]; congr 2; simp [V.css_length, keysAV_length, bareOk] at *; grind, rfl⟩))))))))))
  refine Zs (Zq rfl (QW.eql (.tmp rfl) .const) (Zq rfl (QW.assign (.tmp rfl)) (Zn ?_)))
  refine J.cond (.tmp rfl) (fun c7 => ?_) (fun c7 => ?_)
  · skip
    refine Zs (Zq rfl (QW.field_ptr fo26_3 (.tmp rfl) rfl) (Zq rfl (QW.load_box1 0 ty23 (.tmp rfl) rfl rfl) (Zq rfl (QW.len_sl sl23 (.tmp rfl)) (Zq rfl (QW.field_ptr fo26_4 (.tmp rfl) rfl) (Zq rfl (QW.load_box1 0 ty24 (.tmp rfl) rfl rfl) (Zq rfl (QW.len_sl sl24 (.tmp rfl)) (Zq rfl (QW.eql (.tmp rfl) (.tmp rfl)) (Zq rfl (QW.move (.tmp rfl)) (Zg rfl (fun hg => (QW.field_ptr fo26_3 (.tmp rfl) rfl)) ?_)))))))))
    refine Zg rfl (fun hg => (QW.load_box1 0 ty23 (.when rfl hg) rfl rfl)) (Zg rfl (fun hg => (QW.call gofn71 (.cons (.when rfl hg) .nil) (keys_ok _ _ (by unfold reach at *; omega)))) ?_)
    exact Zq rfl (QW.pick_and (.tmp rfl) (.tmp rfl)) (Zq rfl (QW.assign (.tmp rfl)) (Zn (J.ret (blkQ.r (thenQ.r (Zr [.k] (RetEv.one rfl (REv.tmp rfl lr)) rfl ⟨by simp only [partOk]; congr 2; simp [V.css_length, keysAV_length, bareOk] at *; grind, rfl⟩))))))
  exact J.skip (blkQ.n (thenQ.n (Zs (Zq rfl (QW.assign .const) (Zn (J.ret (Zr [.k] (RetEv.one rfl (REv.tmp rfl lr)) rfl ⟨by simp only [partOk]; congr 2; simp [V.css_length, keysAV_length, bareOk] at *; grind, rfl⟩)))))))
end Go.Proofs.YtmccnmahegbmpaaGreat.J

/- Walks: the page's own part of a value; both walks over a value. -/
namespace Go.Proofs.YtmccnmahegbmpaaGreat.J
open Go Go.RowKit
set_option maxRecDepth 10000
set_option maxHeartbeats 4000000
theorem gtr_less (a b : List UInt8) : (!(Op.bytesLess a b || a == b)) = Op.bytesLess b a := by rw [bytesLess_tri]; simp
end Go.Proofs.YtmccnmahegbmpaaGreat.J

/- Walks: errors that are panicked with, boxes of numbers. -/
namespace Go.Proofs.YtmccnmahegbmpaaGreat.J
open Go Go.RowKit
set_option maxRecDepth 10000
set_option maxHeartbeats 4000000
theorem PanR.of {e e' : Int} {Rx : AV → List Own → Prop} (h : e' = e) (hn : ¬ e = 0) : PanR (e' = 0) (.iface 33 (.int .i64 e')) Rx (.pan (.iface 33 (.int .i64 e))) [] := by
  subst h; exact .pan hn
def errV (e : Int) : Value := .iface 33 (.int .i64 e)
def wk (b : Nat) (p d : Int) : Own := .box b [.c (.int .i64 p), .c (.int .i64 d)]
theorem zeroErrno (w : World) : (zeroValue 33).run Tryz.prog w = .ok (.int .i64 0) w := by kernel_rfl
def ibox (b : Nat) (n : Int) : Own := .box b [.c (.int .i64 n)]
end Go.Proofs.YtmccnmahegbmpaaGreat.J

/- Walks: both walks over a value. -/
namespace Go.Proofs.YtmccnmahegbmpaaGreat.J
open Go Go.RowKit
set_option maxRecDepth 10000
set_option maxHeartbeats 4000000
theorem V.chks_cons {is : List V} {j : Nat} (h : j < is.length) (lev n : Int) : V.chks (is.drop j) lev n = if (V.chk is[j] (lev + 1) n).1 ≠ 0 then V.chk is[j] (lev + 1) n else V.chks (is.drop (j + 1)) lev (V.chk is[j] (lev + 1) n).2 := by
  rw [List.drop_eq_getElem_cons h, V.chks]
theorem V.depths_cons {is : List V} {j : Nat} (h : j < is.length) : V.depths (is.drop j) = max is[j].depth (V.depths (is.drop (j + 1))) := by
  rw [List.drop_eq_getElem_cons h, V.depths]
def WR (v : V) (lev p d : Int) (bw : Nat) : Res → List Own → Prop := PanR ((v.chk lev p).1 = 0) (errV (v.chk lev p).1) fun x o => x = .tup [] ∧ o = [wk bw (v.chk lev p).2 (max d (lev + v.depth - 1))]
theorem walk_n  : ∀ (n : Nat) {v : V} {ys : List AV} {fr : Bool} {lev p d : Int} {bw : Nat}, Vc fr v ys → v.wf → 1 ≤ lev ∧ lev ≤ 9 → 0 ≤ p ∧ p ≤ 512 → v.sz ≤ n →
    AC Tryz.prog 44 [wk bw p d] [.c (.pointer (some ⟨bw, 0, none⟩)), .agg ys, .c (.int .i64 lev)] (WR v lev p d bw) := by
  intro n
  induction n with
  | zero => intro v ys fr lev p d bw hv hw hl hp h; exact absurd h (by have := V.sz_pos v; omega)
  | succ n ih =>
    intro v ys fr lev p d bw hv hw hl hp hn
    obtain ⟨k, b, t, ks, is⟩ := v
    subst hv
    obtain ⟨-, -, -, -, hi80, -, hwi⟩ := hw.inv
    have hi64 : is.length ≤ 9223372036854775806 := by unfold reach at hi80; omega
    refine AC.of_J Tryz.func44 rfl Tryz.ntmps44 rfl fun w0 A0 => ?_
    refine Zs (JL.box_agg (.tmp rfl) rfl fun b4 => Zn (J.seq (J.block (Zs (Zq rfl (QW.move (.tmp rfl)) (Zq rfl (QW.gtr (.tmp rfl) .const) (Zq rfl (QW.assign (.tmp rfl)) (Zn ?_))))))))
    refine J.cond (.tmp rfl) (fun c1 => ?_) (fun c1 => ?_)
    · skip
      simp at c1
      refine J.region_lit (Zq rfl (QW.mkIface ⟨_, Tryz.underlying33, by intro ms h; cases h⟩ .const) ?_)
      refine JL.panic (.tmp rfl) (blkQ.p (thenQ.p ?_))
      exact ⟨_, selP [.k, .k] _, _, rfl, rfl, sel_perm [.k, .k] _, PanR.of (by simp [V.chk, c1]) (by decide)⟩
    simp at c1
    refine Zs (Zq rfl (QW.move (.tmp rfl)) (Zq rfl (QW.nil_ptr (.tmp rfl)) (Zq rfl (QW.field_ptr fo107_0 (.tmp rfl) rfl) (Zq rfl (QW.load_box1 1 ty3 (.tmp rfl) rfl rfl) (Zq rfl (QW.eql (.tmp rfl) .const) (Zq rfl (QW.assign (.tmp rfl)) (Zn ?_)))))))
    refine J.cond (.tmp rfl) (fun c2 => ?_) (fun c2 => ?_)
    · skip
      simp at c2
      refine J.region_lit (Zq rfl (QW.mkIface ⟨_, Tryz.underlying33, by intro ms h; cases h⟩ .const) ?_)
      refine JL.panic (.tmp rfl) (blkQ.p (thenQ.p ?_))
      exact ⟨_, selP [.k, .k] _, _, rfl, rfl, sel_perm [.k, .k] _, PanR.of (by simp [V.chk, show ¬ 8 < lev by omega, show 512 ≤ p by omega]) (by decide)⟩
    simp at c2
    refine Zs (Zq rfl (QW.load_box 0 ty26 (.tmp rfl) rfl rfl rfl) (Zq rfl (QW.call gofn59 (.cons (.tmp rfl) .nil) (part_ok Vc.mk hw)) (Zq rfl (QW.not (.tmp rfl)) (Zq rfl (QW.assign (.tmp rfl)) (Zn ?_)))))
    refine J.cond (.tmp rfl) (fun c3 => ?_) (fun c3 => ?_)
    · skip
      simp at c3
      refine J.region_lit (Zq rfl (QW.mkIface ⟨_, Tryz.underlying33, by intro ms h; cases h⟩ .const) ?_)
      refine JL.panic (.tmp rfl) (blkQ.p (thenQ.p ?_))
      exact ⟨_, selP [.k, .k] _, _, rfl, rfl, sel_perm [.k, .k] _, PanR.of (by simp [V.chk, show ¬ 8 < lev by omega, show ¬ 512 ≤ p by omega, c3]) (by decide)⟩
    simp at c3
    refine J.skip (blkQ.n (thenQ.n (Zs (Zq rfl (QW.move (.tmp rfl)) (Zq rfl (QW.nil_ptr (.tmp rfl)) (Zq rfl (QW.field_ptr fo107_0 (.tmp rfl) rfl) (Zq rfl (QW.load_box1 1 ty3 (.tmp rfl) rfl rfl) (Zq rfl (QW.add (.tmp rfl) .const (w64 (by omega))) (Zq rfl (QW.nil_ptr (.tmp rfl)) ?_)))))))))
    refine Zq rfl (QW.field_ptr fo107_0 (.tmp rfl) rfl) (JL.store_box 1 ty3 (.tmp rfl) rfl (.tmp rfl) rfl rfl rfl rfl rfl (Zn (Zs (Zq rfl (QW.move (.tmp rfl)) (Zq rfl (QW.move (.tmp rfl)) (Zq rfl (QW.nil_ptr (.tmp rfl)) (Zq rfl (QW.field_ptr fo107_1 (.tmp rfl) rfl) (Zq rfl (QW.load_box1 1 ty3 (.tmp rfl) rfl rfl) (Zq rfl (QW.move (.tmp rfl)) ?_)))))))))
    refine Zq rfl (QW.max2 (.tmp rfl) (.tmp rfl)) (Zq rfl (QW.nil_ptr (.tmp rfl)) (Zq rfl (QW.field_ptr fo107_1 (.tmp rfl) rfl) (JL.store_box 1 ty3 (.tmp rfl) rfl (.tmp rfl) rfl rfl rfl rfl rfl (Zn (Zs (Zq rfl (QW.field_ptr fo26_4 (.tmp rfl) rfl) (Zq rfl (QW.load_box1 0 ty24 (.tmp rfl) rfl rfl) (Zq rfl (QW.len_sl sl24 (.tmp rfl)) (Zq rfl (QW.move .const) ?_)))))))))
    refine Zn (J.block ?_)
    have hck : V.chk (.mk k b t ks is) lev p = V.chks is lev (p + 1) := by unfold V.chk; rw [if_neg (by omega), if_neg (by omega), if_neg (by simp [c3])]
    refine J.loopK (ι := Nat × Int × Int) [0, 2, 41, 42] (fun ⟨j, q, e⟩ => [(43, .c (.int .i64 (j : Int)))]) (fun ⟨j, q, e⟩ oo => List.set oo 1 (wk bw q e)) (fun ⟨j, q, e⟩ => j ≤ is.length ∧ V.chks is lev (p + 1) = V.chks (is.drop j) lev q ∧ max e (lev + V.depths (is.drop j)) = max d (lev + V.depths is) ∧ (0 ≤ q ∧ q ≤ 512 ∧ lev ≤ e)) (fun ⟨j, q, e⟩ => is.length - j) ⟨0, p + 1, if lev > d then lev else d⟩ (⟨Nat.zero_le _, rfl, by have := V.depths_nonneg is; rw [List.drop_zero]; split <;> omega, by split <;> omega⟩) (Wk.re (.cons rfl lr (.cons rfl lr (.cons rfl lr (.cons rfl lr (.cons rfl lr .nil))))) (Reown.refl _) (fun _ h => by first | exact h | simp [h])) ?_
    intro ⟨j, q, e⟩ ⟨hj, hcs, hde, hq⟩
    refine J.conv (by (try simp only [nl, stepsO, valO, nthO, curO, mrg, AV.cellsOf, splice_zero, splice_succ, Nat.reduceAdd]); rfl) ?_
    refine Zs (Zq rfl (QW.lss (.tmp rfl) (.tmp rfl)) (Zn (J.seq ?_)))
    refine J.cond (.tmp rfl) (fun c4 => ?_) (fun c4 => ?_)
    · skip
      have hlt : j < is.length := by simpa [V.css_length] using c4
      refine Zk (J.seq (J.block (Zs (Zq rfl (QW.index_sl sl24 ty26 rfl (.tmp rfl) (.tmp rfl) rfl (by exact V.css_getE _ hlt)) ?_))))
      refine Zq rfl (QW.load_ref ty26 (.tmp rfl) (take_at0 vl rfl) vl) (JL.alloc z26 rfl rfl fun b7 => JL.store_boxF 0 ty26 (.tmp rfl) rfl (.tmp rfl) rfl vl rfl rfl (Zn (J.region_lit (Zq rfl (QW.move (.tmp rfl)) (Zq rfl (QW.load_box 0 ty26 (.tmp rfl) rfl (take_at vl rfl) vl) (Zq rfl (QW.move (.tmp rfl)) (Zq rfl (QW.add (.tmp rfl) .const (w64 (by omega))) ?_)))))))
      refine JL.callPF [.k, .k, .p] gofn44 rfl Lent.nil (fun _ => (.cons (.tmp rfl) (.cons (.tmp rfl) (.cons (.tmp rfl) .nil)))) (ih (Vc.self) (hwi _ (List.getElem_mem _)) (by omega) (by omega) (V.sz_get hn hlt)) (.inl rfl) (fun k51 x51 o51 h51 => ?_) (fun k51 => ?_)
      rotate_left
      · skip
        refine blkQ.p (thenQ.p (thenQ.p (blkQ.p ?_)))
        rw [V.chks_cons hlt, if_pos k51] at hcs
        have he := hck.trans hcs
        exact ⟨_, selP [.k, .k] _, _, rfl, rfl, sel_perm [.k, .k] _, PanR.of (by rw [he]) k51⟩
      obtain ⟨rfl, rfl⟩ := h51
      refine JL.nil (blkQ.n (thenQ.n (J.region_lit (Zq rfl (QW.add (.tmp rfl) .const (w64 (by omega))) (Zq rfl (QW.move (.tmp rfl)) (Zn ?_))))))
      have hb := V.chk_bounds is[j] (lev + 1) q
      rw [V.chks_cons hlt, if_neg (by simp [k51])] at hcs
      rw [V.depths_cons hlt] at hde
      exact ⟨⟨j + 1, (V.chk is[j] (lev + 1) q).2, max e (lev + 1 + is[j].depth - 1)⟩, ⟨hlt, hcs, by omega, by omega⟩, by show is.length - (j + 1) < is.length - j; omega, Wk.re (.cons rfl lr (.cons rfl lr (.cons rfl lr (.cons rfl lr (.cons rfl lr .nil))))) (Reown.dropN 1 _ rfl) (fun _ h => by first | exact h | simp [h])⟩
    have hge : is.length ≤ j := by simpa [V.css_length] using c4
    refine J.exit (thenQ.x (thenQ.x (blkQ.hit ?_)))
    obtain rfl : j = is.length := by omega
    simp only [List.drop_length, V.chks, V.depths] at hcs hde
    have he := hck.trans hcs
    exact Zr [.k, .p] (RetEv.none rfl ) rfl (PanR.ret (by rw [he]) ⟨rfl, by rw [he]; unfold V.depth; rw [show max d (lev + (1 + V.depths is) - 1) = e by omega]; rfl⟩)
end Go.Proofs.YtmccnmahegbmpaaGreat.J

/- Walks: sizes and checks of values. -/
namespace Go.Proofs.YtmccnmahegbmpaaGreat.J
open Go Go.RowKit
set_option maxRecDepth 10000
set_option maxHeartbeats 4000000
theorem size1_ret (a b c : Nat) (x y z : Int) : DC Tryz.prog 43 [ibox c z, ibox b y, ibox a x] [.c (.pointer (some ⟨a, 0, none⟩)), .c (.pointer (some ⟨b, 0, none⟩)), .c (.pointer (some ⟨c, 0, none⟩))] .returning fun r u' o => r = .ret (.tup []) ∧ u' = .returning ∧ o = [ibox c z, ibox b y, ibox a x] := by
  refine DC.of_JD Tryz.func43 rfl Tryz.ntmps43 rfl fun w0 A0 => ?_
  refine JD.seq (JD.region_recover rfl rfl (.inl ⟨rfl, rfl, rfl⟩) rfl (Zq rfl (QW.assert_nil ⟨_, Tryz.underlying33, by intro ms h; cases h⟩ zeroErrno (.tmp rfl)) ?_))
  refine Zq rfl (QW.move (.tmp rfl)) (Zq rfl (QW.extract (.tmp rfl) rfl) (Zq rfl (QW.extract (.tmp rfl) rfl) (Zq rfl (QW.assign (.tmp rfl)) (Zq rfl (QW.assign (.tmp rfl)) (JL.nil ?_)))))
  refine thenD.nn ?_
  refine JD.of_J rfl (Zs (Zq rfl (QW.move (.tmp rfl)) (Zn ?_)))
  refine J.cond (.tmp rfl) (fun c1 => absurd c1 (by simp)) (fun c1 => ?_)
  refine J.skip ?_
  exact ⟨_, selP [.p, .p, .p] _, _, RetEv.none rfl , rfl, sel_perm [.p, .p, .p] _, ⟨rfl, rfl, rfl⟩⟩
theorem size1_pan (a b c : Nat) (x y z e : Int) : DC Tryz.prog 43 [ibox c z, ibox b y, ibox a x] [.c (.pointer (some ⟨a, 0, none⟩)), .c (.pointer (some ⟨b, 0, none⟩)), .c (.pointer (some ⟨c, 0, none⟩))] (.panicking [{ v := errV e, recovered := false }]) fun r u' o => r = .ret (.tup []) ∧ u' = .panicking [{ v := errV e, recovered := true }] ∧ o = [ibox c e, ibox b 0, ibox a 0] := by
  refine DC.of_JD Tryz.func43 rfl Tryz.ntmps43 rfl fun w0 A0 => ?_
  refine JD.seq (JD.region_recover rfl rfl (.inr ⟨[], rfl, rfl⟩) rfl (Zq rfl (QW.assert_hit ⟨_, Tryz.underlying33, by intro ms h; cases h⟩ (.tmp rfl)) ?_))
  refine Zq rfl (QW.move (.tmp rfl)) (Zq rfl (QW.extract (.tmp rfl) rfl) (Zq rfl (QW.extract (.tmp rfl) rfl) (Zq rfl (QW.assign (.tmp rfl)) (Zq rfl (QW.assign (.tmp rfl)) (JL.nil ?_)))))
  refine thenD.nn ?_
  refine JD.of_J rfl (Zs (Zq rfl (QW.move (.tmp rfl)) (Zn ?_)))
  refine J.cond (.tmp rfl) (fun c1 => ?_) (fun c1 => absurd c1 (by simp))
  refine J.region_lit (Zq rfl (QW.move (.tmp rfl)) (JL.store_box 2 ty3 (.tmp rfl) rfl .const rfl rfl rfl rfl rfl (JL.store_box 1 ty3 (.tmp rfl) rfl .const rfl rfl rfl rfl rfl (JL.store_box 0 ty33 (.tmp rfl) rfl (.tmp rfl) rfl rfl rfl rfl rfl (JL.nil ?_)))))
  exact ⟨_, selP [.p, .p, .p] _, _, RetEv.none rfl , rfl, sel_perm [.p, .p, .p] _, ⟨rfl, rfl, rfl⟩⟩
def sizeAV (v : V) : AV := .tup [.c (.int .i64 (if v.err = 0 then v.cnt else 0)), .c (.int .i64 (if v.err = 0 then v.depth else 0)), .c (.int .i64 v.err)]
theorem sizeAV_ok {v : V} {n d : Int} (h : v.err = 0) (hn : n = v.cnt) (hd : d = v.depth) : sizeAV v = .tup [.c (.int .i64 n), .c (.int .i64 d), .c (.int .i64 0)] := by
  subst hn hd; simp [sizeAV, h]
theorem sizeAV_no {v : V} {e : Int} (h : ¬ v.err = 0) (he : e = v.err) : sizeAV v = .tup [.c (.int .i64 0), .c (.int .i64 0), .c (.int .i64 e)] := by
  subst he; simp [sizeAV, h]
theorem size_ok {fr : Bool} {v : V} {ys : List AV} (hv : Vc fr v ys) (hw : v.wf) : Fn Tryz.prog 28 [.agg ys] (sizeAV v) := by
  subst hv
  refine AC.of_JD Tryz.func28 rfl Tryz.ntmps28 rfl fun w0 A0 => ?_
  refine Zs (JL.box_agg (.tmp rfl) rfl fun b1 => JL.alloc z3 rfl rfl fun b2 => JL.alloc z3 rfl rfl fun b3 => JL.alloc z33 rfl rfl fun b4 => Zn (Zs (Zq rfl (QW.mkFunc .nil (.cons (.tmp rfl) (.cons (.tmp rfl) (.cons (.tmp rfl) .nil)))) (JL.defer rfl (.tmp rfl) (Zn ?_)))))
  refine Zs (JL.alloc z107 rfl rfl fun b5 => Zn (Zs (Zq rfl (QW.load_box 4 ty26 (.tmp rfl) rfl (take_at vl rfl) vl) ?_)))
  refine JL.callPF [.p] gofn44 rfl Lent.nil (fun _ => (.cons (.tmp rfl) (.cons (.tmp rfl) (.cons .const .nil)))) (walk_n _ Vc.self hw (by omega) (by omega) (Nat.le_refl _)) (.inl rfl) (fun k8 x8 o8 h8 => ?_) (fun k8 => ?_)
  rotate_left
  · skip
    refine thenQ.p ?_
    exact ⟨_, _, [], [_, _, _], selP [.p, .p, .p] _, _, rfl, rfl, gofn43, sel_perm [.p, .p, .p] _, DC.mono (size1_pan _ _ _ _ _ _ _) fun r u' o ⟨h1, h2, h3⟩ => by subst h1 h2 h3; exact ⟨⟨_, rfl⟩, rfl, _, [], _, RetEv.three rfl (REv.cell1 2 ty3 rfl rfl rfl lr) (REv.cell1 1 ty3 rfl rfl rfl lr) (REv.cell1 0 ty33 rfl rfl rfl lr), List.Perm.refl _, (congrArg Res.ret (sizeAV_no k8 rfl)).symm, rfl⟩⟩
  obtain ⟨rfl, rfl⟩ := h8
  refine Zn (J.seq (J.region_outK 5 1 (fun os_ ow_ x_ o_ => match os_ with | [] => (x_ = .c undef ∧ o_ = ow_.set 3 (ibox b2 (v.chk 1 0).2)) | _ => False) mixed (by kernel_rfl) (by kernel_rfl) (by kernel_rfl) rfl ?_))
  refine OutK.quiet [] rfl rfl rfl (fun qs_ qv_ ql_ => (.q rfl (QW.field_ptr fo107_0 (.tmp rfl) rfl))) ?_
  refine OutK.quiet [9] rfl rfl rfl (fun qs_ qv_ ql_ => by
      rcases qs_ with _ | ⟨⟨y0, p0⟩, qs_⟩
      · skip
        exact (.q rfl (QW.load_box1 0 ty3 (.tmp rfl) rfl rfl))
      rcases qs_ with _ | ⟨⟨y1, p1⟩, qs_⟩
      · skip
        obtain ⟨hr0, _⟩ := qv_
        obtain ⟨rfl, rfl⟩ := hr0
        exact (.q rfl (QW.load_box1 0 ty3 (.tmp rfl) rfl rfl))
      exact absurd ql_ (by simp)) ?_
  refine OutK.quiet [] rfl rfl rfl (fun qs_ qv_ ql_ => (.q rfl (QW.field_ptr fo107_1 (.tmp rfl) rfl))) ?_
  refine OutK.quiet [11] rfl rfl rfl (fun qs_ qv_ ql_ => by
      rcases qs_ with _ | ⟨⟨y0, p0⟩, qs_⟩
      · skip
        exact (.q rfl (QW.load_box1 0 ty3 (.tmp rfl) rfl rfl))
      rcases qs_ with _ | ⟨⟨y1, p1⟩, qs_⟩
      · skip
        obtain ⟨hr0, _⟩ := qv_
        obtain ⟨rfl, rfl⟩ := hr0
        exact (.q rfl (QW.load_box1 0 ty3 (.tmp rfl) rfl rfl))
      exact absurd ql_ (by simp)) ?_
  refine OutK.store [10] rfl (fun qs_ ow x o h ql_ => by
      obtain rfl : qs_ = [] := List.length_eq_zero_iff.1 (by simpa using ql_)
      exact h.1) rfl rfl rfl (fun qs_ qv_ ql_ => by
      obtain rfl : qs_ = [] := List.length_eq_zero_iff.1 ql_
      exact LStep.toR rfl (LStep.store_box 3 ty3 (.tmp rfl) rfl (.tmp rfl) rfl rfl rfl rfl rfl) ⟨rfl, rfl⟩) ?_
  refine .nil fun qs_ qv_ ql_ => ?_
  obtain ⟨⟨y0, p0⟩, qs_, rfl⟩ : ∃ p t, qs_ = p :: t := by (cases qs_ with | nil => simp at ql_ | cons p t => exact ⟨p, t, rfl⟩)
  obtain rfl : qs_ = [] := List.length_eq_zero_iff.1 (by simpa using ql_)
  obtain ⟨hr0, _⟩ := qv_
  obtain ⟨rfl, rfl⟩ := hr0
  refine JL.conv (by (try simp only [nl, stepsO, valO, nthO, curO, mrg, AV.cellsOf, splice_zero, splice_succ, Nat.reduceAdd]); rfl) ?_
  refine JL.store_box 2 ty3 (.tmp rfl) rfl (.tmp rfl) rfl rfl rfl rfl rfl (JL.store_box 1 ty33 (.tmp rfl) rfl .const rfl rfl rfl rfl rfl (Zn (J.ret ?_)))
  exact ⟨_, _, [], [_, _, _], selP [.k, .p, .p, .p] _, _, rfl, rfl, gofn43, sel_perm [.k, .p, .p, .p] _, DC.mono (size1_ret _ _ _ _ _ _) fun r u' o ⟨h1, h2, h3⟩ => by subst h1 h2 h3; exact ⟨⟨_, rfl⟩, rfl, _, [], _, RetEv.three rfl (REv.cell1 2 ty3 rfl rfl rfl lr) (REv.cell1 1 ty3 rfl rfl rfl lr) (REv.cell1 0 ty33 rfl rfl rfl lr), List.Perm.refl _, (congrArg Res.ret (sizeAV_ok k8 rfl (by have := V.chk_depth v 1 0 k8; omega))).symm, rfl⟩⟩
theorem check_ok {fr : Bool} {v : V} {ys : List AV} (hv : Vc fr v ys) (hw : v.wf) : Fn Tryz.prog 16 [.agg ys] (.c (.int .i64 v.err)) := by
  subst hv
  refine AC.of_J Tryz.func16 rfl Tryz.ntmps16 rfl fun w0 A0 => ?_
  refine Zs (JL.box_agg (.tmp rfl) rfl fun b1 => Zq rfl (QW.assign .const) (Zn (Zs (Zq rfl (QW.load_box 0 ty26 (.tmp rfl) rfl (take_at vl rfl) vl) (Zq rfl (QW.call gofn28 (.cons (.tmp rfl) .nil) (size_ok (Vc.self) (by assumption))) ?_)))))
  refine Zq rfl (QW.move (.tmp rfl)) (Zq rfl (QW.extract (.tmp rfl) rfl) (Zq rfl (QW.extract (.tmp rfl) rfl) (Zq rfl (QW.extract (.tmp rfl) rfl) (Zq rfl (QW.assign (.tmp rfl)) (Zq rfl (QW.assign (.tmp rfl)) (Zq rfl (QW.assign (.tmp rfl)) (Zn (Zs (Zq rfl (QW.move (.tmp rfl)) ?_)))))))))
  exact Zq rfl (QW.assign (.tmp rfl)) (Zn (J.ret (Zr [.k] (RetEv.one rfl (REv.tmp rfl lr)) rfl ⟨rfl, rfl⟩)))
end Go.Proofs.YtmccnmahegbmpaaGreat.J

/- Walks: what the statements share: are two things one; copies of values. -/
namespace Go.Proofs.YtmccnmahegbmpaaGreat.J
open Go Go.RowKit
set_option maxRecDepth 10000
set_option maxHeartbeats 4000000
theorem list_split {α : Type} [BEq α] [LawfulBEq α] {a b : List α} (hl : a.length = b.length) {k : Nat} (h : a.take k = b.take k) (ha : k < a.length) : (a.take (k + 1) = b.take (k + 1)) ↔ a[k] = b[k]'(hl ▸ ha) := by
  have hb : k < b.length := by omega
  rw [List.take_succ_eq_append_getElem (l := a) ha, List.take_succ_eq_append_getElem (l := b) hb, h, List.append_right_inj]
  simp
theorem sameStrings_ok {fr fr2 : Bool} (a b : List Str) (ha : a.length ≤ 9223372036854775806) (hb : b.length ≤ 9223372036854775806) : Fn Tryz.prog 27 [.sl fr false eStr (keysAV a), .sl fr2 false eStr (keysAV b)] (.c (.bool (a == b))) := by
  refine AC.of_J Tryz.func27 rfl Tryz.ntmps27 rfl fun w0 A0 => ?_
  refine Zs (Zq rfl (QW.assign .const) (Zn (J.seq (Zs (Zq rfl (QW.move (.tmp rfl)) (Zq rfl (QW.len_sl sl23 (.tmp rfl)) (Zq rfl (QW.move (.tmp rfl)) (Zq rfl (QW.len_sl sl23 (.tmp rfl)) (Zq rfl (QW.neq (.tmp rfl) (.tmp rfl)) ?_)))))))))
  refine Zn ?_
  refine J.cond (.tmp rfl) (fun c1 => ?_) (fun c1 => ?_)
  · skip
    simp [keysAV_length] at c1
    exact Zs (Zq rfl (QW.assign .const) (Zn (J.ret (thenQ.r (Zr [] (RetEv.one rfl (REv.tmp rfl lr)) rfl ⟨ret_b (by simp; intro e; subst e; exact c1 rfl), rfl⟩)))))
  have hl : a.length = b.length := by simp [keysAV_length] at c1; omega
  refine Zk (J.seq (Zs (Zq rfl (QW.assign .const) (Zn (J.block (J.loopK (ι := Nat) [0, 1] (fun k => [(5, .c (.int .i64 (k : Int)))]) (fun _ oo => oo) (fun k => k ≤ a.length ∧ a.take k = b.take k) (fun k => a.length - k) 0 (⟨Nat.zero_le _, rfl⟩) (Wk.re (.cons rfl lr (.cons rfl lr (.cons rfl lr .nil))) (Reown.refl _) (fun _ h => by first | exact h | simp [h])) ?_))))))
  intro k ⟨hk, heqs⟩
  refine J.conv (by (try simp only [nl, stepsO, valO, nthO, curO, mrg, AV.cellsOf, splice_zero, splice_succ, Nat.reduceAdd]); rfl) ?_
  refine J.seq (Zs (Zq rfl (QW.move (.tmp rfl)) (Zq rfl (QW.move (.tmp rfl)) (Zq rfl (QW.len_sl sl23 (.tmp rfl)) (Zq rfl (QW.lss (.tmp rfl) (.tmp rfl)) (Zn ?_))))))
  refine J.cond (.tmp rfl) (fun c2 => ?_) (fun c2 => ?_)
  · skip
    have hlt : k < a.length := by simpa [keysAV_length] using c2
    refine Zk (J.seq (J.block (J.seq (J.region_tailK 8 mixed (by kernel_rfl) (by kernel_rfl) (by kernel_rfl) rfl ?_))))
    refine .cons [] rfl rfl rfl (.q rfl (QW.move (.tmp rfl))) ?_
    refine .cons [] rfl rfl rfl (.q rfl (QW.move (.tmp rfl))) ?_
    refine .cons [17, 18] rfl rfl rfl (.q rfl (QW.index_sl sl23 ty9 rfl (.tmp rfl) (.tmp rfl) rfl (by exact keysAV_getE (by omega)))) ?_
    refine .cons [19] rfl rfl rfl (.q rfl (QW.load_ref1 ty9 (.tmp rfl) rfl)) ?_
    refine .cons [] rfl rfl rfl (.q rfl (QW.move (.tmp rfl))) ?_
    refine .cons [] rfl rfl rfl (.q rfl (QW.move (.tmp rfl))) ?_
    refine .cons [21, 22] rfl rfl rfl (.q rfl (QW.index_sl sl23 ty9 rfl (.tmp rfl) (.tmp rfl) rfl (by exact keysAV_getE (by omega)))) ?_
    refine .cons [23] rfl rfl rfl (.q rfl (QW.load_ref1 ty9 (.tmp rfl) rfl)) ?_
    refine .nil ?_
    refine Zq rfl (QW.neq_s (.tmp rfl) (.tmp rfl)) (Zn ?_)
    refine J.cond (.tmp rfl) (fun c3 => ?_) (fun c3 => ?_)
    · skip
      have hne : a[k] ≠ b[k] := by simpa using c3
      exact Zs (Zq rfl (QW.assign .const) (Zn (J.ret (blkQ.r (thenQ.r (thenQ.r (blkQ.r (thenQ.r (Zr [] (RetEv.one rfl (REv.tmp rfl lr)) rfl ⟨ret_b (by simp; intro e; subst e; exact hne rfl), rfl⟩)))))))))
    have heq : a[k] = b[k] := by simpa using c3
    refine J.skip (blkQ.n (thenQ.n (J.region_lit (Zq rfl (QW.move (.tmp rfl)) (Zq rfl (QW.add (.tmp rfl) .const (w64 (by omega))) (Zq rfl (QW.assign (.tmp rfl)) (Zn ?_)))))))
    exact ⟨k + 1, ⟨hlt, (list_split hl heqs hlt).2 heq⟩, by omega, Wk.re (.cons rfl lr (.cons rfl lr (.cons rfl lr .nil))) (Reown.refl _) (fun _ h => by first | exact h | simp [h])⟩
  have hge : a.length ≤ k := by simpa [keysAV_length] using c2
  exact J.exit (thenQ.x (thenQ.x (blkQ.hit (thenQ.n (Zs (Zq rfl (QW.assign .const) (Zn (J.ret (Zr [] (RetEv.one rfl (REv.tmp rfl lr)) rfl ⟨ret_b (by simp; rw [List.take_of_length_le hge, List.take_of_length_le (by omega)] at heqs; exact heqs), rfl⟩)))))))))
theorem sames_drop {a b : List V} {k : Nat} (ha : k < a.length) (hb : k < b.length) : V.sames (a.drop k) (b.drop k) = (a[k].same b[k] && V.sames (a.drop (k + 1)) (b.drop (k + 1))) := by
  rw [List.drop_eq_getElem_cons ha, List.drop_eq_getElem_cons hb, V.sames]
theorem sames_len : ∀ {a b : List V}, V.sames a b = true → a.length = b.length
  | [], [], _ => rfl
  | x :: r, y :: s, h => by simp only [V.sames, Bool.and_eq_true] at h; simp [sames_len h.2]
  | [], _ :: _, h => by simp [V.sames] at h
  | _ :: _, [], h => by simp [V.sames] at h
theorem sameValue_n  : ∀ (n : Nat) {v u : V} {ys zs : List AV} {fr fr2 : Bool}, Vc fr v ys → Vc fr2 u zs → v.wf → u.wf → v.sz ≤ n →
    Fn Tryz.prog 12 [.agg ys, .agg zs] (.c (.bool (v.same u))) := by
  intro n
  induction n with
  | zero => intro v u ys zs fr fr2 hv hu hw hw2 h; exact absurd h (by have := V.sz_pos v; omega)
  | succ n ih =>
    intro v u ys zs fr fr2 hv hu hw hw2 hn
    obtain ⟨k, b, t, ks, is⟩ := v
    obtain ⟨k', b', t', ks', is'⟩ := u
    subst hv hu
    obtain ⟨-, -, -, hk16, hi80, -, hwi⟩ := hw.inv
    obtain ⟨-, -, -, hk16', hi80', -, hwi'⟩ := hw2.inv
    have h1 : is.length ≤ 9223372036854775806 := by unfold reach at hi80; omega
    have h2 : is'.length ≤ 9223372036854775806 := by unfold reach at hi80'; omega
    have h3 : ks.length ≤ 9223372036854775806 := by unfold reach at hk16; omega
    have h4 : ks'.length ≤ 9223372036854775806 := by unfold reach at hk16'; omega
    refine AC.of_J Tryz.func12 rfl Tryz.ntmps12 rfl fun w0 A0 => ?_
    refine Zs (JL.box_agg (.tmp rfl) rfl fun b2 => JL.box_agg (.tmp rfl) rfl fun b3 => Zq rfl (QW.assign .const) (Zn (J.seq (Zs (Zq rfl (QW.field_ptr fo26_0 (.tmp rfl) rfl) (Zq rfl (QW.load_box1 1 ty3 (.tmp rfl) rfl rfl) (Zq rfl (QW.field_ptr fo26_0 (.tmp rfl) rfl) ?_)))))))
    refine Zq rfl (QW.load_box1 0 ty3 (.tmp rfl) rfl rfl) (Zq rfl (QW.neq (.tmp rfl) (.tmp rfl)) (Zq rfl (QW.move (.tmp rfl)) (Zg rfl (fun hg => (QW.field_ptr fo26_1 (.tmp rfl) rfl)) (Zg rfl (fun hg => (QW.load_box1 1 ty22 (.when rfl hg) rfl rfl)) (Zg rfl (fun hg => (QW.field_ptr fo26_1 (.tmp rfl) rfl)) (Zg rfl (fun hg => (QW.load_box1 0 ty22 (.when rfl hg) rfl rfl)) (Zg rfl (fun hg => (QW.neq (.when rfl hg) (.when rfl hg))) (Zq rfl (QW.pick_or (.tmp rfl) (.tmp rfl)) (Zq rfl (QW.move (.tmp rfl)) ?_)))))))))
    refine Zg rfl (fun hg => (QW.field_ptr fo26_2 (.tmp rfl) rfl)) (Zg rfl (fun hg => (QW.load_box1 1 ty9 (.when rfl hg) rfl rfl)) (Zg rfl (fun hg => (QW.field_ptr fo26_2 (.tmp rfl) rfl)) (Zg rfl (fun hg => (QW.load_box1 0 ty9 (.when rfl hg) rfl rfl)) (Zg rfl (fun hg => (QW.neq_s (.when rfl hg) (.when rfl hg))) (Zq rfl (QW.pick_or (.tmp rfl) (.tmp rfl)) (Zq rfl (QW.move (.tmp rfl)) (Zg rfl (fun hg => (QW.field_ptr fo26_3 (.tmp rfl) rfl)) (Zg rfl (fun hg => (QW.load_box1 1 ty23 (.when rfl hg) rfl rfl)) (Zg rfl (fun hg => (QW.field_ptr fo26_3 (.tmp rfl) rfl)) ?_)))))))))
    refine Zg rfl (fun hg => (QW.load_box1 0 ty23 (.when rfl hg) rfl rfl)) (Zg rfl (fun hg => (QW.call gofn27 (.cons (.when rfl hg) (.cons (.when rfl hg) .nil)) (sameStrings_ok _ _ h3 h4))) (Zg rfl (fun hg => (QW.not (.when rfl hg))) (Zq rfl (QW.pick_or (.tmp rfl) (.tmp rfl)) (Zq rfl (QW.move (.tmp rfl)) (Zg rfl (fun hg => (QW.field_ptr fo26_4 (.tmp rfl) rfl)) (Zg rfl (fun hg => (QW.load_box1 1 ty24 (.when rfl hg) rfl rfl)) (Zg rfl (fun hg => (QW.len_sl sl24 (.when rfl hg))) (Zg rfl (fun hg => (QW.field_ptr fo26_4 (.tmp rfl) rfl)) (Zg rfl (fun hg => (QW.load_box1 0 ty24 (.when rfl hg) rfl rfl)) ?_)))))))))
    refine Zg rfl (fun hg => (QW.len_sl sl24 (.when rfl hg))) (Zg rfl (fun hg => (QW.neq (.when rfl hg) (.when rfl hg))) (Zq rfl (QW.pick_or (.tmp rfl) (.tmp rfl)) (Zn ?_)))
    refine J.cond (.tmp rfl) (fun c1 => ?_) (fun c1 => ?_)
    · skip
      simp [V.css_length] at c1
      exact Zs (Zq rfl (QW.assign .const) (Zn (J.ret (thenQ.r (Zr [.k, .k] (RetEv.one rfl (REv.tmp rfl lr)) rfl ⟨ret_b (by simp [V.same]; intro e1 e2 e3 e4; subst e1 e2 e3 e4; cases hs : V.sames is is' with | false => rfl | true => have := sames_len hs; simp at c1; omega), rfl⟩)))))
    simp [V.css_length] at c1
    obtain ⟨⟨⟨⟨e1, e2⟩, e3⟩, e4⟩, e5⟩ := c1
    have hl : is.length = is'.length := by omega
    refine Zk (J.seq (Zs (Zq rfl (QW.assign .const) (Zn (J.block (J.loopK (ι := Nat) [2, 3] (fun j => [(5, .c (.int .i64 (j : Int)))]) (fun _ oo => oo) (fun j => j ≤ is.length ∧ V.sames is is' = V.sames (is.drop j) (is'.drop j)) (fun j => is.length - j) 0 (⟨Nat.zero_le _, rfl⟩) (Wk.re (.cons rfl lr (.cons rfl lr (.cons rfl lr .nil))) (Reown.refl _) (fun _ h => by first | exact h | simp [h])) ?_))))))
    intro j ⟨hj, hs⟩
    refine J.conv (by (try simp only [nl, stepsO, valO, nthO, curO, mrg, AV.cellsOf, splice_zero, splice_succ, Nat.reduceAdd]); rfl) ?_
    refine J.seq (Zs (Zq rfl (QW.move (.tmp rfl)) (Zq rfl (QW.field_ptr fo26_4 (.tmp rfl) rfl) (Zq rfl (QW.load_box1 1 ty24 (.tmp rfl) rfl rfl) (Zq rfl (QW.len_sl sl24 (.tmp rfl)) (Zq rfl (QW.lss (.tmp rfl) (.tmp rfl)) (Zn ?_)))))))
    refine J.cond (.tmp rfl) (fun c2 => ?_) (fun c2 => ?_)
    · skip
      have hlt : j < is.length := by simpa [V.css_length] using c2
      have hlt2 : j < is'.length := by omega
      refine Zk (J.seq (J.block (J.seq (J.region_tailK 10 mixed (by kernel_rfl) (by kernel_rfl) (by kernel_rfl) rfl ?_))))
      refine .cons [] rfl rfl rfl (.q rfl (QW.field_ptr fo26_4 (.tmp rfl) rfl)) ?_
      refine .cons [49] rfl rfl rfl (.q rfl (QW.load_box1 1 ty24 (.tmp rfl) rfl rfl)) ?_
      refine .cons [] rfl rfl rfl (.q rfl (QW.move (.tmp rfl))) ?_
      refine .cons [50, 51] rfl rfl rfl (.q rfl (QW.index_sl sl24 ty26 rfl (.tmp rfl) (.tmp rfl) rfl (V.css_getE _ hlt))) ?_
      refine .cons [52] rfl rfl rfl (.q rfl (QW.load_ref ty26 (.tmp rfl) (take_at0 vl rfl) vl)) ?_
      refine .cons [] rfl rfl rfl (.q rfl (QW.field_ptr fo26_4 (.tmp rfl) rfl)) ?_
      refine .cons [54] rfl rfl rfl (.q rfl (QW.load_box1 0 ty24 (.tmp rfl) rfl rfl)) ?_
      refine .cons [] rfl rfl rfl (.q rfl (QW.move (.tmp rfl))) ?_
      refine .cons [55, 56] rfl rfl rfl (.q rfl (QW.index_sl sl24 ty26 rfl (.tmp rfl) (.tmp rfl) rfl (V.css_getE _ hlt2))) ?_
      refine .cons [57] rfl rfl rfl (.q rfl (QW.load_ref ty26 (.tmp rfl) (take_at0 vl rfl) vl)) ?_
      refine .nil ?_
      refine Zq rfl (QW.call gofn12 (.cons (.tmp rfl) (.cons (.tmp rfl) .nil)) (ih Vc.self Vc.self (hwi _ (List.getElem_mem _)) (hwi' _ (List.getElem_mem _)) (V.sz_get hn hlt))) (Zq rfl (QW.not (.tmp rfl)) (Zn ?_))
      refine J.cond (.tmp rfl) (fun c3 => ?_) (fun c3 => ?_)
      · skip
        simp at c3
        exact Zs (Zq rfl (QW.assign .const) (Zn (J.ret (blkQ.r (thenQ.r (thenQ.r (blkQ.r (thenQ.r (Zr [.k, .k] (RetEv.one rfl (REv.tmp rfl lr)) rfl ⟨ret_b (by rw [sames_drop hlt hlt2, c3] at hs; simp [V.same, hs]), rfl⟩)))))))))
      simp at c3
      refine J.skip (blkQ.n (thenQ.n (J.region_lit (Zq rfl (QW.move (.tmp rfl)) (Zq rfl (QW.add (.tmp rfl) .const (w64 (by omega))) (Zq rfl (QW.assign (.tmp rfl)) (Zn ?_)))))))
      rw [sames_drop hlt hlt2, c3, Bool.true_and] at hs
      exact ⟨j + 1, ⟨hlt, hs⟩, by omega, Wk.re (.cons rfl lr (.cons rfl lr (.cons rfl lr .nil))) (Reown.refl _) (fun _ h => by first | exact h | simp [h])⟩
    have hge : is.length ≤ j := by simpa [V.css_length] using c2
    refine J.exit (thenQ.x (thenQ.x (blkQ.hit (thenQ.n (Zs (Zq rfl (QW.assign .const) (Zn (J.ret ?_))))))))
    have hz : V.sames is is' = true := by
      rw [hs, List.drop_of_length_le hge, List.drop_of_length_le (by omega), V.sames]
    exact Zr [.k, .k] (RetEv.one rfl (REv.tmp rfl lr)) rfl ⟨ret_b (by simp [V.same, hz, e3, e4]; omega), rfl⟩
theorem copyValue_n  : ∀ (n : Nat) {v : V} {ys : List AV} {fr : Bool}, Vc fr v ys → v.wf → v.sz ≤ n → AC Tryz.prog 23 [] [.agg ys] (RetR (CopyR v)) := by
  intro n
  induction n with
  | zero => intro v ys fr hv hw h; exact absurd h (by have := V.sz_pos v; omega)
  | succ n ih =>
    intro v ys fr hv hw hn
    obtain ⟨k, b, t, ks, is⟩ := v
    subst hv
    obtain ⟨-, -, -, hk16, hi80, -, hwi⟩ := hw.inv
    have h1 : is.length ≤ 9223372036854775806 := by unfold reach at hi80; omega
    refine AC.of_J Tryz.func23 rfl Tryz.ntmps23 rfl fun w0 A0 => ?_
    refine Zs (JL.box_agg (.tmp rfl) rfl fun b1 => JL.alloc z26 rfl rfl fun b2 => Zn (Zs (Zq rfl (QW.assign .const) (Zn (Zs (Zq rfl (QW.assign .const) (Zn ?_)))))))
    refine J.seq (Zs (Zq rfl (QW.assign .const) (Zn (J.block (J.reown (Reown.nilArrE eV _) (J.reown (Reown.nilGrpE _) (J.loopK (ι := Nat × Value × List (List AV) × List Value × Own) [1, 2, 3] (fun ⟨j, v, cs, us, o⟩ => [(5, .c (.int .i64 (j : Int))), (4, .c v)]) (fun ⟨j, v, cs, us, o⟩ oo => List.set (List.set oo 2 (.arr v eV cs)) 3 (o)) (fun ⟨j, v, cs, us, o⟩ => j ≤ is.length ∧ KidsTr (is.take j) cs us o) (fun ⟨j, v, cs, us, o⟩ => is.length - j) ⟨0, .slice none 0 0, [], [], .grp []⟩ (⟨Nat.zero_le _, .nil⟩) (Wk.re (.cons rfl lr (.cons rfl lr (.cons rfl lr (.cons rfl lr (.cons rfl lr .nil))))) (Reown.refl _) (fun _ h => by first | exact h | simp [h])) ?_)))))))
    intro ⟨j, v, cs, us, o⟩ ⟨hj, hK⟩
    refine J.conv (by (try simp only [nl, stepsO, valO, nthO, curO, mrg, AV.cellsOf, splice_zero, splice_succ, Nat.reduceAdd]); rfl) ?_
    refine J.seq (Zs (Zq rfl (QW.move (.tmp rfl)) (Zq rfl (QW.field_ptr fo26_4 (.tmp rfl) rfl) (Zq rfl (QW.load_box1 1 ty24 (.tmp rfl) rfl rfl) (Zq rfl (QW.len_sl sl24 (.tmp rfl)) (Zq rfl (QW.lss (.tmp rfl) (.tmp rfl)) (Zn ?_)))))))
    refine J.cond (.tmp rfl) (fun c1 => ?_) (fun c1 => ?_)
    · skip
      have hlt : j < is.length := by simpa [V.css_length] using c1
      refine Zk (J.seq (J.block (J.region_lit (Zq rfl (QW.move (.tmp rfl)) (Zq rfl (QW.field_ptr fo26_4 (.tmp rfl) rfl) (Zq rfl (QW.load_box1 1 ty24 (.tmp rfl) rfl rfl) (Zq rfl (QW.move (.tmp rfl)) (Zq rfl (QW.index_sl sl24 ty26 rfl (.tmp rfl) (.tmp rfl) rfl (by exact V.css_getE _ hlt)) ?_))))))))
      refine Zq rfl (QW.load_ref ty26 (.tmp rfl) (take_at0 vl rfl) vl) (JL.callRF [] gofn23 rfl Lent.nil (fun _ => (.cons (.tmp rfl) .nil)) (ih Vc.self (hwi _ (List.getElem_mem _)) (V.sz_get hn hlt)) (.inl rfl) fun x19 o19 h19 => ?_)
      obtain ⟨kv19, iv19, ok19, oi19, rfl, rfl, hV19⟩ := h19
      refine Zq rfl (QW.buildSlice (idx := [0]) (xs := [is[j].raw kv19 iv19]) sl24 el26 z26 rfl (.cons (.tmp rfl) .nil) rfl rfl rfl rfl rfl rfl rfl rfl rfl) (JL.append 2 sl24 el26 rfl (.tmp rfl) rfl (srcA_sl sl24 (.tmp rfl)) (by have := hK.h2; rw [List.length_take] at this; simp; unfold reach at *; omega) rfl fun v21 => ?_)
      refine Zq rfl (QW.assign (.tmp rfl)) (JL.nil (blkQ.n (thenQ.n (J.region_lit (Zq rfl (QW.move (.tmp rfl)) (Zq rfl (QW.add (.tmp rfl) .const (w64 (by omega))) (Zq rfl (QW.assign (.tmp rfl)) (Zn ?_))))))))
      exact ⟨⟨j + 1, _, _, _, _⟩, ⟨hlt, by rw [List.take_succ_eq_append_getElem hlt]; exact hK.snoc hV19⟩, by show is.length - (j + 1) < is.length - j; omega, Wk.re (.cons rfl lr (.cons rfl lr (.cons rfl lr (.cons rfl lr (.cons rfl lr .nil))))) ((Reown.cons (Reown.cons (Reown.cons (Reown.tri _ _ _ _))))) (fun _ h => by first | exact h | simp [h])⟩
    have hge : is.length ≤ j := by simpa [V.css_length] using c1
    refine J.exit (thenQ.x (thenQ.x (blkQ.hit (thenQ.n (J.seq (J.reown (Reown.nilArrE eStr _) (J.region_lit (Zq rfl (QW.move (.tmp rfl)) (Zq rfl (QW.field_ptr fo26_3 (.tmp rfl) rfl) ?_)))))))))
    refine Zq rfl (QW.load_box1 1 ty23 (.tmp rfl) rfl rfl) (JL.append 4 sl23 el9 rfl (.tmp rfl) rfl (srcA_sl sl23 (.tmp rfl)) (by rw [keysAV_length]; simpa using hk16) rfl fun v25 => ?_)
    refine Zq rfl (QW.move (.tmp rfl)) (Zq rfl (QW.field_ptr fo26_3 (.tmp rfl) rfl) (JL.isSlice 4 rfl fun hs2 => JL.isSlice 2 rfl fun hs1 => JL.store_box 1 ty23 (.tmp rfl) rfl (.tmp rfl) (by assumption) rfl rfl rfl rfl ?_))
    refine Zq rfl (QW.field_ptr fo26_4 (.tmp rfl) rfl) (JL.store_box 1 ty24 (.tmp rfl) rfl (.tmp rfl) (by assumption) rfl rfl rfl rfl ?_)
    refine Zn (J.seq (J.reown (Reown.cons (Reown.cons (Reown.rot3g _ _ _ _))) (J.region_lit (Zq rfl (QW.load_box 1 ty26 (.tmp rfl) rfl rfl rfl) (JL.store_boxF 0 ty26 (.tmp rfl) rfl (.tmp rfl) rfl rfl rfl rfl (Zn (J.ret ?_)))))))
    obtain rfl : j = is.length := by omega
    rw [List.take_length] at hK
    exact Zr [.k, .k, .p, .p] (RetEv.one rfl (REv.cell 0 ty26 rfl rfl rfl rfl lr)) rfl ⟨_, rfl, _, _, _, _, rfl, rfl, hs2, hs1, keys_tr hk16, hK.tr hi80⟩
end Go.Proofs.YtmccnmahegbmpaaGreat.J

/- Walks: the page's copy of a value; the program's; lists that are copied. -/
namespace Go.Proofs.YtmccnmahegbmpaaGreat.J
open Go Go.RowKit
set_option maxRecDepth 10000
set_option maxHeartbeats 4000000
theorem copyValue_ok {v : V} {ys : List AV} {fr : Bool} (hv : Vc fr v ys) (hw : v.wf) : AC Tryz.prog 23 [] [.agg ys] (RetR (CopyR v)) := copyValue_n _ hv hw (Nat.le_refl _)
theorem copyValue_rd {v : V} {ys : List AV} {fr : Bool} (hv : Vc fr v ys) (hw : v.wf) : Fn Tryz.prog 23 [.agg ys] (.agg (v.cs true)) := .ofCopy (copyValue_ok hv hw)
theorem sameValue_ok {v u : V} {ys zs : List AV} {fr fr2 : Bool} (hv : Vc fr v ys) (hu : Vc fr2 u zs) (hw : v.wf) (hw2 : u.wf) : Fn Tryz.prog 12 [.agg ys, .agg zs] (.c (.bool (v.same u))) := sameValue_n _ hv hu hw hw2 (Nat.le_refl _)
def CloneR (e : ETy) (xs : List (List AV)) : AV → List Own → Prop := fun x o => ∃ v, x = .c v ∧ v.oneCell' = true ∧ o = [.arr v e xs]
theorem cloneStr_ok {fr : Bool} (xs : List (List AV)) (hr : xs.length * 16 ≤ reach) : AC Tryz.prog 32 [] [.sl fr false eStr xs] (RetR (CloneR eStr xs)) := by
  refine AC.of_J Tryz.func32 rfl Tryz.ntmps32 rfl fun w0 A0 => ?_
  refine Zs (Zq rfl (QW.assign .const) (Zn (J.seq (Zs (Zq rfl (QW.move (.tmp rfl)) (JL.eqnil sl23 (.tmp rfl) .const rfl fun n4 hn4 => Zn ?_))))))
  refine J.cond (.tmp rfl) (fun c1 => ?_) (fun c1 => ?_)
  · skip
    refine J.seq (J.reown (Reown.nilArrE eStr _) (J.region_lit (Zq rfl (QW.assign .const) (Zn (J.ret (thenQ.r ?_))))))
    obtain rfl : xs = [] := hn4 c1
    exact Zr [.p] (RetEv.one rfl (REv.tmp rfl lr)) rfl ⟨_, rfl, _, rfl, rfl, rfl⟩
  refine Zk (Zs (JL.buildSlice0 sl23 el9 rfl rfl fun v5 => Zq rfl (QW.move (.tmp rfl)) (JL.append 0 sl23 el9 rfl (.tmp rfl) rfl (srcA_sl sl23 (.tmp rfl)) (by simpa using hr) rfl fun v7 => ?_)))
  exact JL.isSlice 0 rfl fun hs1 => Zq rfl (QW.assign (.tmp rfl)) (Zn (J.ret (Zr [.p] (RetEv.one rfl (REv.tmp rfl lr)) rfl ⟨_, rfl, _, rfl, hs1, rfl⟩)))
theorem cloneVal_ok {fr : Bool} (xs : List (List AV)) (hr : xs.length * 80 ≤ reach) : AC Tryz.prog 33 [] [.sl fr false eV xs] (RetR (CloneR eV xs)) := by
  refine AC.of_J Tryz.func33 rfl Tryz.ntmps33 rfl fun w0 A0 => ?_
  refine Zs (Zq rfl (QW.assign .const) (Zn (J.seq (Zs (Zq rfl (QW.move (.tmp rfl)) (JL.eqnil sl24 (.tmp rfl) .const rfl fun n4 hn4 => Zn ?_))))))
  refine J.cond (.tmp rfl) (fun c1 => ?_) (fun c1 => ?_)
  · skip
    refine J.seq (J.reown (Reown.nilArrE eV _) (J.region_lit (Zq rfl (QW.assign .const) (Zn (J.ret (thenQ.r ?_))))))
    obtain rfl : xs = [] := hn4 c1
    exact Zr [.p] (RetEv.one rfl (REv.tmp rfl lr)) rfl ⟨_, rfl, _, rfl, rfl, rfl⟩
  refine Zk (Zs (JL.buildSlice0 sl24 el26 rfl rfl fun v5 => Zq rfl (QW.move (.tmp rfl)) (JL.append 0 sl24 el26 rfl (.tmp rfl) rfl (srcA_sl sl24 (.tmp rfl)) (by simpa using hr) rfl fun v7 => ?_)))
  exact JL.isSlice 0 rfl fun hs1 => Zq rfl (QW.assign (.tmp rfl)) (Zn (J.ret (Zr [.p] (RetEv.one rfl (REv.tmp rfl lr)) rfl ⟨_, rfl, _, rfl, hs1, rfl⟩)))
theorem clone_get {cs : List (List AV)} {is : List V} {j : Nat} (fr : Bool) (hc : cs.length = j) (h : j < is.length) : (cs ++ V.css fr (is.drop j))[j]? = some (V.cs fr is[j]) := by
  rw [List.getElem?_append_right (by omega), hc, Nat.sub_self, List.drop_eq_getElem_cons h]; rfl
theorem clone_set {cs : List (List AV)} {is : List V} {j : Nat} {fr : Bool} {z : List AV} (hc : cs.length = j) (h : j < is.length) : (cs ++ V.css fr (is.drop j)).set j z = (cs ++ [z]) ++ V.css fr (is.drop (j + 1)) := by
  rw [List.set_append_right _ _ (by omega), hc, Nat.sub_self, List.drop_eq_getElem_cons h]
  simp [V.css]
theorem splice_all {ys zs : List AV} (h : zs.length = ys.length) : splice ys 0 zs = zs := by unfold splice; simp [h]
theorem clone_n  : ∀ (n : Nat) {v : V} {ys : List AV} {fr : Bool}, Vc fr v ys → v.wf → v.sz ≤ n → AC Tryz.prog 21 [] [.agg ys] (RetR (CopyR v)) := by
  intro n
  induction n with
  | zero => intro v ys fr hv hw h; exact absurd h (by have := V.sz_pos v; omega)
  | succ n ih =>
    intro v ys fr hv hw hn
    obtain ⟨k, b, t, ks, is⟩ := v
    subst hv
    obtain ⟨-, -, -, hk16, hi80, -, hwi⟩ := hw.inv
    have h1 : is.length ≤ 9223372036854775806 := by unfold reach at hi80; omega
    refine AC.of_J Tryz.func21 rfl Tryz.ntmps21 rfl fun w0 A0 => ?_
    refine Zs (JL.box_agg (.tmp rfl) rfl fun b1 => JL.alloc z26 rfl rfl fun b2 => Zn (J.seq (J.region_outK 7 2 (fun os_ ow_ x_ o_ => match os_ with | [] => (∃ o2_, (CloneR eStr (keysAV ks)) x_ o2_ ∧ o_ = mrg [] o2_ ow_) | [(x0_, _)] => (∃ o2_, (CloneR eV (V.css fr is)) x_ o2_ ∧ o_ = mrg [] o2_ ow_) | _ => False) mixed (by kernel_rfl) (by kernel_rfl) (by kernel_rfl) rfl ?_)))
    refine OutK.quiet [] rfl rfl rfl (fun qs_ qv_ ql_ => (.q rfl (QW.field_ptr fo26_3 (.tmp rfl) rfl))) ?_
    refine OutK.quiet [5] rfl rfl rfl (fun qs_ qv_ ql_ => by
        rcases qs_ with _ | ⟨⟨y0, p0⟩, qs_⟩
        · skip
          exact (.q rfl (QW.load_box1 1 ty23 (.tmp rfl) rfl rfl))
        rcases qs_ with _ | ⟨⟨y1, p1⟩, qs_⟩
        · skip
          obtain ⟨hr0, _⟩ := qv_
          obtain ⟨o7, ⟨kv7, rfl, hs7, rfl⟩, rfl⟩ := hr0
          exact (.q rfl (QW.load_box1 1 ty23 (.tmp rfl) rfl rfl))
        rcases qs_ with _ | ⟨⟨y2, p2⟩, qs_⟩
        · skip
          obtain ⟨hr1, hr0, _⟩ := qv_
          obtain ⟨o7, ⟨kv7, rfl, hs7, rfl⟩, rfl⟩ := hr0
          obtain ⟨o10, ⟨iv10, rfl, hs10, rfl⟩, rfl⟩ := hr1
          exact (.q rfl (QW.load_box1 1 ty23 (.tmp rfl) rfl rfl))
        exact absurd ql_ (by simp)) ?_
    refine OutK.loud [6] rfl rfl rfl rfl rfl (fun qs_ qv_ ql_ => by
        obtain rfl : qs_ = [] := List.length_eq_zero_iff.1 ql_
        exact LStepR.callRF (d := 7) [] gofn32 Lent.nil (fun _ => (.cons (.tmp rfl) .nil)) (cloneStr_ok _ (by rw [keysAV_length]; exact hk16)) (.inl rfl)) ?_
    refine OutK.quiet [] rfl rfl rfl (fun qs_ qv_ ql_ => (.q rfl (QW.field_ptr fo26_4 (.tmp rfl) rfl))) ?_
    refine OutK.quiet [8] rfl rfl rfl (fun qs_ qv_ ql_ => by
        rcases qs_ with _ | ⟨⟨y0, p0⟩, qs_⟩
        · skip
          exact (.q rfl (QW.load_box1 1 ty24 (.tmp rfl) rfl rfl))
        rcases qs_ with _ | ⟨⟨y1, p1⟩, qs_⟩
        · skip
          obtain ⟨hr0, _⟩ := qv_
          obtain ⟨o7, ⟨kv7, rfl, hs7, rfl⟩, rfl⟩ := hr0
          exact (.q rfl (QW.load_box1 1 ty24 (.tmp rfl) rfl rfl))
        rcases qs_ with _ | ⟨⟨y2, p2⟩, qs_⟩
        · skip
          obtain ⟨hr1, hr0, _⟩ := qv_
          obtain ⟨o7, ⟨kv7, rfl, hs7, rfl⟩, rfl⟩ := hr0
          obtain ⟨o10, ⟨iv10, rfl, hs10, rfl⟩, rfl⟩ := hr1
          exact (.q rfl (QW.load_box1 1 ty24 (.tmp rfl) rfl rfl))
        exact absurd ql_ (by simp)) ?_
    refine OutK.loud [9] rfl rfl rfl rfl rfl (fun qs_ qv_ ql_ => by
        obtain ⟨⟨y0, p0⟩, qs_, rfl⟩ : ∃ p t, qs_ = p :: t := by (cases qs_ with | nil => simp at ql_ | cons p t => exact ⟨p, t, rfl⟩)
        obtain rfl : qs_ = [] := List.length_eq_zero_iff.1 (by simpa using ql_)
        obtain ⟨hr0, _⟩ := qv_
        obtain ⟨o7, ⟨kv7, rfl, hs7, rfl⟩, rfl⟩ := hr0
        exact LStepR.callRF (d := 10) [] gofn33 Lent.nil (fun _ => (.cons (.tmp rfl) .nil)) (cloneVal_ok _ (by rw [V.css_length]; exact hi80)) (.inl rfl)) ?_
    refine OutK.quiet [] rfl rfl rfl (fun qs_ qv_ ql_ => (.q rfl (QW.field_ptr fo26_3 (.tmp rfl) rfl))) ?_
    refine .nil fun qs_ qv_ ql_ => ?_
    obtain ⟨⟨y1, p1⟩, qs_, rfl⟩ : ∃ p t, qs_ = p :: t := by (cases qs_ with | nil => simp at ql_ | cons p t => exact ⟨p, t, rfl⟩)
    simp only [List.length_cons, Nat.add_right_cancel_iff] at ql_
    obtain ⟨⟨y0, p0⟩, qs_, rfl⟩ : ∃ p t, qs_ = p :: t := by (cases qs_ with | nil => simp at ql_ | cons p t => exact ⟨p, t, rfl⟩)
    obtain rfl : qs_ = [] := List.length_eq_zero_iff.1 (by simpa using ql_)
    obtain ⟨hr1, hr0, _⟩ := qv_
    obtain ⟨o7, ⟨kv7, rfl, hs7, rfl⟩, rfl⟩ := hr0
    obtain ⟨o10, ⟨iv10, rfl, hs10, rfl⟩, rfl⟩ := hr1
    refine JL.conv (by (try simp only [nl, stepsO, valO, nthO, curO, mrg, AV.cellsOf, splice_zero, splice_succ, Nat.reduceAdd]); rfl) ?_
    refine JL.store_box 1 ty23 (.tmp rfl) rfl (.tmp rfl) (by assumption) rfl rfl rfl rfl ?_
    refine Zq rfl (QW.field_ptr fo26_4 (.tmp rfl) rfl) (JL.store_box 1 ty24 (.tmp rfl) rfl (.tmp rfl) (by assumption) rfl rfl rfl rfl ?_)
    refine Zn (J.seq (Zs (Zq rfl (QW.field_ptr fo26_4 (.tmp rfl) rfl) (Zq rfl (QW.load_box1 1 ty24 (.tmp rfl) rfl rfl) (Zq rfl (QW.len_arr 3 sl24 (.tmp rfl) rfl) (Zq rfl (QW.move .const) (Zn (J.block (J.reown (Reown.nilGrpE _) ?_)))))))))
    refine J.loopK (ι := Nat × List (List AV) × List Value × Own) [1, 2, 14, 15] (fun ⟨j, cs, us, o⟩ => [(16, .c (.int .i64 (j : Int)))]) (fun ⟨j, cs, us, o⟩ oo => List.set (List.set oo 3 (.arr iv10 eV (cs ++ V.css fr (is.drop j)))) 4 (o)) (fun ⟨j, cs, us, o⟩ => j ≤ is.length ∧ KidsTr (is.take j) cs us o) (fun ⟨j, cs, us, o⟩ => is.length - j) ⟨0, [], [], .grp []⟩ (⟨Nat.zero_le _, .nil⟩) (Wk.re (.cons rfl lr (.cons rfl lr (.cons rfl lr (.cons rfl lr (.cons rfl lr .nil))))) (Reown.refl _) (fun _ h => by first | exact h | simp [h])) ?_
    intro ⟨j, cs, us, o⟩ ⟨hj, hK⟩
    refine J.conv (by (try simp only [nl, stepsO, valO, nthO, curO, mrg, AV.cellsOf, splice_zero, splice_succ, Nat.reduceAdd]); rfl) ?_
    refine Zs (Zq rfl (QW.lss (.tmp rfl) (.tmp rfl)) (Zn (J.seq ?_)))
    refine J.cond (.tmp rfl) (fun c1 => ?_) (fun c1 => ?_)
    · skip
      have hlt : j < is.length := by simpa [V.css_length] using c1
      have hcl : cs.length = j := by have := hK.h2; rw [List.length_take] at this; omega
      refine Zk (J.seq (J.block (Zs (Zq rfl (QW.move (.tmp rfl)) (Zq rfl (QW.index_arr 3 sl24 ty26 rfl (.tmp rfl) rfl (.tmp rfl) rfl (by simp [V.css_length]; omega) rfl) ?_)))))
      refine Zq rfl (QW.load_gp 3 ty26 (.tmp rfl) rfl (by exact clone_get fr hcl hlt) rfl (take_full vl) vl) ?_
      refine JL.alloc z26 rfl rfl fun b4 => Zq rfl (QW.assign (.tmp rfl)) (JL.store_boxF 0 ty26 (.tmp rfl) rfl (.tmp rfl) rfl vl rfl rfl (Zn (J.region_outK 5 1 (fun os_ ow_ x_ o_ => match os_ with | [] => (∃ o2_, (CopyR is[j]) x_ o2_ ∧ o_ = mrg [] o2_ ow_) | _ => False) mixed (by kernel_rfl) (by kernel_rfl) (by kernel_rfl) rfl ?_)))
      refine OutK.quiet [] rfl rfl rfl (fun qs_ qv_ ql_ => (.q rfl (QW.field_ptr fo26_4 (.tmp rfl) rfl))) ?_
      refine OutK.quiet [21] rfl rfl rfl (fun qs_ qv_ ql_ => by
          rcases qs_ with _ | ⟨⟨y0, p0⟩, qs_⟩
          · skip
            exact (.q rfl (QW.load_box1 2 ty24 (.tmp rfl) rfl rfl))
          rcases qs_ with _ | ⟨⟨y1, p1⟩, qs_⟩
          · skip
            obtain ⟨hr0, _⟩ := qv_
            obtain ⟨o25, ⟨kv25, iv25, ok25, oi25, rfl, rfl, hV25⟩, rfl⟩ := hr0
            exact (.q rfl (QW.load_box1 2 ty24 (.tmp rfl) rfl rfl))
          exact absurd ql_ (by simp)) ?_
      refine OutK.quiet [] rfl rfl rfl (fun qs_ qv_ ql_ => (.q rfl (QW.move (.tmp rfl)))) ?_
      refine OutK.quiet [] rfl rfl rfl (fun qs_ qv_ ql_ => by
          rcases qs_ with _ | ⟨⟨y0, p0⟩, qs_⟩
          · skip
            exact (.q rfl (QW.load_box 0 ty26 (.tmp rfl) rfl (take_at vl rfl) vl))
          rcases qs_ with _ | ⟨⟨y1, p1⟩, qs_⟩
          · skip
            obtain ⟨hr0, _⟩ := qv_
            obtain ⟨o25, ⟨kv25, iv25, ok25, oi25, rfl, rfl, hV25⟩, rfl⟩ := hr0
            exact (.q rfl (QW.load_box 0 ty26 (.tmp rfl) rfl (take_at vl rfl) vl))
          exact absurd ql_ (by simp)) ?_
      refine OutK.loud [24] rfl rfl rfl rfl rfl (fun qs_ qv_ ql_ => by
          obtain rfl : qs_ = [] := List.length_eq_zero_iff.1 ql_
          exact LStepR.callRF (d := 25) [] gofn21 Lent.nil (fun _ => (.cons (.tmp rfl) .nil)) (ih Vc.self (hwi _ (List.getElem_mem _)) (V.sz_get hn hlt)) (.inl rfl)) ?_
      refine .nil fun qs_ qv_ ql_ => ?_
      obtain ⟨⟨y0, p0⟩, qs_, rfl⟩ : ∃ p t, qs_ = p :: t := by (cases qs_ with | nil => simp at ql_ | cons p t => exact ⟨p, t, rfl⟩)
      obtain rfl : qs_ = [] := List.length_eq_zero_iff.1 (by simpa using ql_)
      obtain ⟨hr0, _⟩ := qv_
      obtain ⟨o25, ⟨kv25, iv25, ok25, oi25, rfl, rfl, hV25⟩, rfl⟩ := hr0
      refine JL.conv (by (try simp only [nl, stepsO, valO, nthO, curO, mrg, AV.cellsOf, splice_zero, splice_succ, Nat.reduceAdd]); rfl) ?_
      refine Zq rfl (QW.index_arr 4 sl24 ty26 rfl (.tmp rfl) rfl (.tmp rfl) rfl (by simp [V.css_length]; omega) rfl) ?_
      refine JL.store_gp 4 ty26 (.tmp rfl) rfl (clone_get fr hcl hlt) rfl (.tmp rfl) rfl rfl rfl ((congrArg (List.set _ _) (splice_all (by rw [V.cs_length]; try rfl))).trans (clone_set hcl hlt)) rfl ?_
      refine JL.nil (blkQ.n (thenQ.n (J.region_lit (Zq rfl (QW.add (.tmp rfl) .const (w64 (by omega))) (Zq rfl (QW.move (.tmp rfl)) (Zn ?_))))))
      exact ⟨⟨j + 1, cs ++ [is[j].raw kv25 iv25], us ++ is[j].vals kv25 iv25, .grp [o, .grp [ok25, oi25]]⟩, ⟨hlt, by rw [List.take_succ_eq_append_getElem hlt]; exact hK.snoc hV25⟩, by show is.length - (j + 1) < is.length - j; omega, Wk.re (.cons rfl lr (.cons rfl lr (.cons rfl lr (.cons rfl lr (.cons rfl lr .nil))))) ((Reown.dropN 1 _ rfl).trans (Reown.cons (Reown.cons (Reown.cons (Reown.cons (Reown.tri _ _ _ _)))))) (fun _ h => by first | exact h | simp [h])⟩
    have hge : is.length ≤ j := by simpa [V.css_length] using c1
    refine J.exit (thenQ.x (thenQ.x (blkQ.hit (thenQ.n (J.seq (J.reown (Reown.cons (Reown.cons (Reown.cons (Reown.grp2 _ _ _)))) (J.region_lit (Zq rfl (QW.load_box 1 ty26 (.tmp rfl) rfl rfl rfl) (JL.store_boxF 0 ty26 (.tmp rfl) rfl (.tmp rfl) rfl rfl rfl rfl ?_)))))))))
    refine Zn (J.ret ?_)
    obtain rfl : j = is.length := by omega
    rw [List.take_length] at hK
    exact Zr [.k, .k, .p, .p] (RetEv.one rfl (REv.cell 0 ty26 rfl rfl rfl rfl lr)) rfl ⟨_, rfl, _, _, _, _, rfl, rfl, hs7, hs10, keys_tr hk16, by rw [show cs ++ V.css fr (is.drop is.length) = cs by simp [V.css]]; exact hK.tr hi80⟩
theorem clone_ok {v : V} {ys : List AV} {fr : Bool} (hv : Vc fr v ys) (hw : v.wf) : AC Tryz.prog 21 [] [.agg ys] (RetR (CopyR v)) := clone_n _ hv hw (Nat.le_refl _)
theorem clone_rd {v : V} {ys : List AV} {fr : Bool} (hv : Vc fr v ys) (hw : v.wf) : Fn Tryz.prog 21 [.agg ys] (.agg (v.cs true)) := .ofCopy (clone_ok hv hw)
end Go.Proofs.YtmccnmahegbmpaaGreat.J

/- Walks: a value that is spoilt. -/
namespace Go.Proofs.YtmccnmahegbmpaaGreat.J
open Go Go.RowKit
set_option maxRecDepth 10000
set_option maxHeartbeats 4000000
end Go.Proofs.YtmccnmahegbmpaaGreat.J

/- Steps into values: what is found, got and set, as plain data. -/
namespace Go.Proofs.YtmccnmahegbmpaaGreat.J
open Go Go.RowKit
structure StT where
  isKey : Bool
  key : Str
  index : Int
  deriving DecidableEq
def eSt : ETy := ⟨3, 32⟩
def StT.cs (s : StT) : List AV := [.c (.bool s.isKey), .c (str s.key), .c (.int .i64 s.index)]
def StT.css (l : List StT) : List (List AV) := l.map StT.cs
theorem StT.css_length (l : List StT) : (StT.css l).length = l.length := by simp [StT.css]
theorem StT.css_getE {l : List StT} {i : Nat} (h : i < l.length) : (StT.css l)[i]? = some l[i].cs := by simp [StT.css, h]
structure StT.wf (s : StT) : Prop where
  k : s.key.length ≤ reach
  i : -9223372036854775808 ≤ s.index ∧ s.index ≤ 9223372036854775807
def Sc (s : StT) (ys : List AV) : Prop := ys = s.cs
theorem Sc.self {s : StT} : Sc s s.cs := rfl
/-! ### texts in order -/
theorem less_irr : ∀ a : Str, Op.bytesLess a a = false
  | [] => rfl
  | x :: a => by simp [Op.bytesLess, less_irr a]
theorem less_trans : ∀ {a b c : Str}, Op.bytesLess a b = true → Op.bytesLess b c = true → Op.bytesLess a c = true
  | a, [], _, h, _ => by cases a <;> simp [Op.bytesLess] at h
  | [], y :: b, z :: c, _, _ => rfl
  | _, y :: b, [], _, h => by simp [Op.bytesLess] at h
  | x :: a, y :: b, z :: c, h, k => by
    simp only [Op.bytesLess, Bool.or_eq_true, decide_eq_true_eq, Bool.and_eq_true, beq_iff_eq, UInt8.lt_iff_toNat_lt] at h k ⊢
    rcases h with h | ⟨rfl, h⟩
    · rcases k with k | ⟨rfl, k⟩
      · exact .inl (by omega)
      · exact .inl h
    · rcases k with k | ⟨rfl, k⟩
      · exact .inl k
      · exact .inr ⟨rfl, less_trans h k⟩
def Sorted (l : List Str) : Prop := List.Pairwise (fun a b => Op.bytesLess a b = true) l
theorem keysOk_sorted {l : List Str} (h : keysOk l = true) : Sorted l := by
  have hk : ∀ j, j < l.length → keyAt l j = true := fun j hj => List.all_eq_true.1 h j (by simpa using hj)
  rw [Sorted, List.pairwise_iff_getElem]
  intro i j hi hj hij
  induction j with
  | zero => omega
  | succ j ih =>
    have h1 := hk (j + 1) hj
    simp only [keyAt, Bool.and_eq_true, Bool.or_eq_true, beq_iff_eq, Nat.add_sub_cancel] at h1
    have h2 : Op.bytesLess l[j] l[j + 1] = true := by
      have := h1.2.resolve_left (by omega)
      simpa [List.getD, hj, show j < l.length by omega] using this
    by_cases he : i = j
    · subst he; exact h2
    · exact less_trans (ih (by omega) (by omega)) h2
def low : List Str → Str → Nat
  | [], _ => 0
  | k :: r, s => if Op.bytesLess k s then low r s + 1 else 0
theorem low_le : ∀ (l : List Str) (s : Str), low l s ≤ l.length
  | [], _ => Nat.le_refl _
  | k :: r, s => by
    have := low_le r s
    unfold low
    split
    · simp; exact this
    · exact Nat.zero_le _
theorem low_lt : ∀ {l : List Str} {s : Str} {i : Nat} (h : i < l.length), i < low l s → Op.bytesLess l[i] s = true
  | k :: r, s, i, h, hi => by
    unfold low at hi
    split at hi
    · rename_i hk
      cases i with
      | zero => exact hk
      | succ i => exact low_lt (l := r) (by simpa using h) (by omega)
    · omega
theorem low_at : ∀ {l : List Str} {s : Str} (h : low l s < l.length), Op.bytesLess l[low l s] s = false
  | k :: r, s, h => by
    by_cases hk : Op.bytesLess k s = true
    · have e : low (k :: r) s = low r s + 1 := by rw [low, if_pos hk]
      simp only [e, List.getElem_cons_succ]
      exact low_at (by rw [e] at h; simpa using h)
    · have e : low (k :: r) s = 0 := by rw [low, if_neg hk]
      simp only [e, List.getElem_cons_zero]
      simpa using hk
theorem low_ge {l : List Str} {s : Str} (hs : Sorted l) {i : Nat} (h : i < l.length) (hi : low l s ≤ i) : Op.bytesLess l[i] s = false := by
  have h0 := low_at (l := l) (s := s) (by omega)
  by_cases he : low l s = i
  · simp only [he] at h0; exact h0
  · cases hc : Op.bytesLess l[i] s with
    | false => rfl
    | true =>
      have := (List.pairwise_iff_getElem.1 hs) (low l s) i (by omega) h (by omega)
      rw [less_trans this hc] at h0
      cases h0
theorem low_eq {l : List Str} {s : Str} (hs : Sorted l) {i : Nat} (h : i < l.length) (he : l[i] = s) : low l s = i := by
  rcases Nat.lt_trichotomy (low l s) i with h1 | h1 | h1
  · have h2 := (List.pairwise_iff_getElem.1 hs) (low l s) i (by omega) h h1
    have h3 := low_at (l := l) (s := s) (by omega)
    rw [he] at h2
    rw [h2] at h3
    cases h3
  · exact h1
  · have := low_lt h h1
    rw [he, less_irr] at this
    cases this
/-! ### values that may be -/
inductive V.Fine : V → Prop
  | mk {v : V} (h : partOk v = true) (hs : ∀ x ∈ v.items, V.Fine x) : V.Fine v
theorem V.Fine.part {v : V} (h : v.Fine) : partOk v = true := by cases h; assumption
theorem V.Fine.kid {v : V} (h : v.Fine) {x : V} (hx : x ∈ v.items) : x.Fine := by cases h with | mk _ h => exact h x hx
mutual
theorem V.fine_chk : ∀ (v : V) (lev n : Int), (v.chk lev n).1 = 0 → v.Fine
  | .mk k b t ks is, lev, n, h => by
    unfold V.chk at h
    split at h
    · simp at h
    · split at h
      · simp at h
      · split at h
        · simp at h
        · rename_i hp
          exact .mk (by simpa using hp) (V.fine_chks is lev (n + 1) h)
theorem V.fine_chks : ∀ (l : List V) (lev n : Int), (V.chks l lev n).1 = 0 → ∀ x ∈ l, x.Fine
  | [], _, _, _ => fun _ h => by cases h
  | y :: r, lev, n, h => fun x hx => by
    unfold V.chks at h
    split at h
    · rename_i h'; exact absurd h h'
    · rename_i h'
      rcases List.mem_cons.1 hx with e | hx
      · rw [e]; exact V.fine_chk y (lev + 1) n (by simpa using h')
      · exact V.fine_chks r lev _ h x hx
end
theorem V.fine_of {v : V} (h : v.err = 0) : v.Fine := V.fine_chk v 1 0 h
theorem partOk_rec {v : V} (h : partOk v = true) (hk : v.kind = 5) : v.keys.length = v.items.length ∧ keysOk v.keys = true := by
  obtain ⟨k, b, t, ks, is⟩ := v
  simp only [V.kind] at hk
  subst hk
  simp [partOk] at h
  exact ⟨h.1.2, h.2⟩
theorem partOk_len {v : V} (h : partOk v = true) : v.items.length ≤ 32 ∧ v.keys.length ≤ 32 := by
  obtain ⟨k, b, t, ks, is⟩ := v
  unfold partOk at h
  simp only [V.items, V.keys]
  repeat' split at h
  all_goals (simp at h; try grind)
theorem V.Fine.sorted {v : V} (h : v.Fine) (hk : v.kind = 5) : Sorted v.keys := keysOk_sorted (partOk_rec h.part hk).2
/-! ### steps -/
def V.fnd (v : V) (s : StT) : Nat × Int :=
  if s.isKey = true then (if v.kind = 5 then (low v.keys s.key, if v.keys[low v.keys s.key]? = some s.key then 0 else 71) else (0, 81))
  else if v.kind = 4 then (if s.index < 0 ∨ (v.items.length : Int) ≤ s.index then (0, 82) else (s.index.toNat, 0)) else (0, 81)
theorem V.fnd_lt {v : V} {s : StT} (hv : partOk v = true) (h : (v.fnd s).2 = 0) : (v.fnd s).1 < v.items.length := by
  unfold V.fnd at h ⊢
  split
  · rename_i h1
    rw [if_pos h1] at h
    split
    · rename_i h2
      rw [if_pos h2] at h
      simp only at h ⊢
      split at h
      · rename_i h3
        rw [← (partOk_rec hv h2).1]
        exact (List.getElem?_eq_some_iff.1 h3).1
      · simp at h
    · rename_i h2
      rw [if_neg h2] at h
      simp at h
  · rename_i h1
    rw [if_neg h1] at h
    split
    · rename_i h2
      rw [if_pos h2] at h
      split
      · rename_i h3
        rw [if_pos h3] at h
        simp at h
      · simp only; omega
    · rename_i h2
      rw [if_neg h2] at h
      simp at h
def V.kid (v : V) (i : Nat) : V := v.items.getD i .nil
def V.setAt (v : V) (i : Nat) (x : V) : V := .mk v.kind v.bits v.text v.keys (v.items.set i x)
def V.ins (v : V) (s : StT) (i : Nat) (x : V) : V := .mk v.kind v.bits v.text (if s.isKey = true then v.keys.take i ++ [s.key] ++ v.keys.drop i else v.keys) (v.items.take i ++ [x] ++ v.items.drop i)
def V.grw (v : V) (s : StT) (i : Nat) (e : Int) : Nat × Int :=
  if e = 71 ∧ keyOk s.key = false then (0, 31) else if e = 82 ∧ s.index = v.items.length then (if 32 ≤ v.items.length then (0, 3) else (v.items.length, 0)) else if e ≠ 71 then (0, e) else if 32 ≤ v.items.length then (0, 3) else (i, 0)
def V.put (v : V) (s : StT) (x : V) : V × Int :=
  if (v.fnd s).2 = 0 then (v.setAt (v.fnd s).1 x, 0) else if (v.grw s (v.fnd s).1 (v.fnd s).2).2 = 0 then (v.ins s (v.grw s (v.fnd s).1 (v.fnd s).2).1 x, 0) else (.nil, (v.grw s (v.fnd s).1 (v.fnd s).2).2)
def V.set : V → List StT → V → V × Int
  | _, [], x => (x, 0)
  | v, [s], x => v.put s x
  | v, s :: t :: r, x => if (v.fnd s).2 ≠ 0 then (.nil, (v.fnd s).2) else if (V.set (v.kid (v.fnd s).1) (t :: r) x).2 ≠ 0 then (.nil, (V.set (v.kid (v.fnd s).1) (t :: r) x).2) else (v.setAt (v.fnd s).1 (V.set (v.kid (v.fnd s).1) (t :: r) x).1, 0)
def V.setv (v : V) (p : List StT) (x : V) : V × Int :=
  if v.err ≠ 0 then (.nil, v.err) else if x.err ≠ 0 then (.nil, x.err) else if (v.set p x).2 ≠ 0 then (.nil, (v.set p x).2) else if (v.set p x).1.err ≠ 0 then (.nil, (v.set p x).1.err) else ((v.set p x).1, 0)
def V.walk : V → List StT → V × Int
  | v, [] => (v, 0)
  | v, s :: r => if (v.fnd s).2 ≠ 0 then (.nil, (v.fnd s).2) else V.walk (v.kid (v.fnd s).1) r
def V.getv (v : V) (p : List StT) : V × Int := if v.err ≠ 0 then (.nil, v.err) else v.walk p
theorem V.kid_mem {v : V} {i : Nat} (h : i < v.items.length) : v.kid i ∈ v.items := by
  unfold V.kid; simp [List.getD, h]
theorem V.kid_eq {v : V} {i : Nat} (h : i < v.items.length) : v.kid i = v.items[i] := by
  unfold V.kid; simp [List.getD, h]
theorem V.wf.kid {v : V} (h : v.wf) {x : V} (hx : x ∈ v.items) : x.wf := by obtain ⟨k, b, t, ks, is⟩ := v; exact h.inv.2.2.2.2.2.2 x hx
theorem V.walk_wf : ∀ {p : List StT} {v : V}, v.wf → v.Fine → (v.walk p).1.wf
  | [], v, h, _ => h
  | s :: r, v, h, hf => by
    unfold V.walk
    split
    · exact V.wf_nil
    · rename_i he
      have hlt := V.fnd_lt hf.part (by simpa using he)
      exact V.walk_wf (h.kid (V.kid_mem hlt)) (hf.kid (V.kid_mem hlt))
theorem V.getv_wf {v : V} {p : List StT} (h : v.wf) : (v.getv p).1.wf := by
  unfold V.getv
  split
  · exact V.wf_nil
  · rename_i he
    exact V.walk_wf h (V.fine_of (by simpa using he))
theorem V.setAt_wf {v x : V} {i : Nat} (h : v.wf) (hx : x.wf) : (v.setAt i x).wf := by
  obtain ⟨k, b, t, ks, is⟩ := v
  obtain ⟨h1, h2, h3, h4, h5, h6, h7⟩ := h.inv
  exact .mk h1 h2 h3 h4 (by simpa [V.items] using h5) h6 fun y hy => (List.mem_or_eq_of_mem_set hy).elim (h7 y) fun e => e ▸ hx
theorem V.ins_wf {v x : V} {s : StT} {i : Nat} (h : v.wf) (hf : partOk v = true) (hs : s.wf) (hx : x.wf) : (v.ins s i x).wf := by
  obtain ⟨k, b, t, ks, is⟩ := v
  obtain ⟨h1, h2, h3, h4, h5, h6, h7⟩ := h.inv
  obtain ⟨l1, l2⟩ := partOk_len hf
  simp only [V.items, V.keys] at l1 l2
  refine .mk h1 h2 h3 ?_ ?_ ?_ ?_
  · simp only [V.keys]
    split
    · simp only [List.length_append, List.length_take, List.length_drop, List.length_singleton]; unfold reach; omega
    · exact h4
  · simp only [V.items, List.length_append, List.length_take, List.length_drop, List.length_singleton]; unfold reach; omega
  · simp only [V.keys]
    intro z hz
    split at hz
    · simp only [List.mem_append, List.mem_singleton] at hz
      rcases hz with (hz | rfl) | hz
      · exact h6 z (List.mem_of_mem_take hz)
      · exact hs.k
      · exact h6 z (List.mem_of_mem_drop hz)
    · exact h6 z hz
  · simp only [V.items]
    intro z hz
    simp only [List.mem_append, List.mem_singleton] at hz
    rcases hz with (hz | rfl) | hz
    · exact h7 z (List.mem_of_mem_take hz)
    · exact hx
    · exact h7 z (List.mem_of_mem_drop hz)
theorem V.put_wf {v x : V} {s : StT} (h : v.wf) (hf : partOk v = true) (hs : s.wf) (hx : x.wf) : (v.put s x).1.wf := by
  unfold V.put
  split
  · exact V.setAt_wf h hx
  · split
    · exact V.ins_wf h hf hs hx
    · exact V.wf_nil
theorem V.set_wf : ∀ {p : List StT} {v x : V}, v.wf → v.Fine → (∀ s ∈ p, s.wf) → x.wf → (v.set p x).1.wf
  | [], v, x, _, _, _, hx => hx
  | [s], v, x, h, hf, hs, hx => V.put_wf h hf.part (hs s (by simp)) hx
  | s :: t :: r, v, x, h, hf, hs, hx => by
    unfold V.set
    split
    · exact V.wf_nil
    · rename_i he
      have hlt := V.fnd_lt hf.part (by simpa using he)
      split
      · exact V.wf_nil
      · exact V.setAt_wf h (V.set_wf (h.kid (V.kid_mem hlt)) (hf.kid (V.kid_mem hlt)) (fun s hs' => hs s (List.mem_cons_of_mem _ hs')) hx)
theorem V.setv_wf {v x : V} {p : List StT} (h : v.wf) (hs : ∀ s ∈ p, s.wf) (hx : x.wf) : (v.setv p x).1.wf := by
  unfold V.setv
  split
  · exact V.wf_nil
  · rename_i he
    split
    · exact V.wf_nil
    · split
      · exact V.wf_nil
      · split
        · exact V.wf_nil
        · exact V.set_wf h (V.fine_of (by simpa using he)) hs hx
end Go.Proofs.YtmccnmahegbmpaaGreat.J

/- The order of values, as plain data. -/
namespace Go.Proofs.YtmccnmahegbmpaaGreat.J
open Go Go.RowKit
def cmpI (a b : Int) : Int := if a < b then -1 else if b < a then 1 else 0
def cmpS (a b : Str) : Int := if Op.bytesLess a b then -1 else if Op.bytesLess b a then 1 else 0
def orI (a b : Int) : Int := if a ≠ 0 then a else b
def cmpK : List Str → List Str → Int
  | [], [] => 0
  | [], _ :: _ => -1
  | _ :: _, [] => 1
  | x :: r, y :: s => orI (cmpS x y) (cmpK r s)
def V.numb (k : Int) (b : Nat) : Nat := if k = 2 then orderN b else b
mutual
def V.ord : V → V → Int
  | .mk k b t ks is, .mk k' b' t' ks' is' => orI (cmpI k k') (orI (cmpI (V.numb k b) (V.numb k b')) (orI (cmpS t t') (orI (cmpK ks ks') (V.ords is is'))))
def V.ords : List V → List V → Int
  | [], [] => 0
  | [], _ :: _ => -1
  | _ :: _, [] => 1
  | x :: r, y :: s => orI (x.ord y) (V.ords r s)
end
def V.cmp (a b : V) : Int × Int := if a.err ≠ 0 then (0, a.err) else if b.err ≠ 0 then (0, b.err) else (a.ord b, 0)
def V.one (a b : V) : Bool := (a.cmp b).1 == 0 && (a.cmp b).2 == 0
end Go.Proofs.YtmccnmahegbmpaaGreat.J

/- Numbers: what can be written exactly is; the floor and what is cut off, as whole numbers. -/
namespace Go.Proofs.YtmccnmahegbmpaaGreat.J
open Go Go.RowKit
theorem cut_exact (way : Ieee.Toward) (s : Bool) (k d : Nat) : way.cut s (k * 2 ^ d) d = k := by
  have hg : ∃ g, (1 <<< min d ((k * 2 ^ d).log2 + 2) = g) ∧ 0 < g ∧ (k * 2 ^ d) / g = k ∧ (k * 2 ^ d) % g = 0 := by
    refine ⟨_, rfl, ?_, ?_⟩
    · rw [Nat.shiftLeft_eq, Nat.one_mul]; exact Nat.two_pow_pos _
    · rw [Nat.shiftLeft_eq, Nat.one_mul]
      by_cases hk : k = 0
      · subst hk; simp
      · have hd : d ≤ (k * 2 ^ d).log2 := by
          rw [Nat.le_log2 (Nat.mul_ne_zero hk (Nat.ne_of_gt (Nat.two_pow_pos _)))]
          exact Nat.le_mul_of_pos_left _ (Nat.pos_of_ne_zero hk)
        rw [Nat.min_eq_left (by omega)]
        exact ⟨Nat.mul_div_cancel _ (Nat.two_pow_pos _), Nat.mul_mod_left _ _⟩
  obtain ⟨g, h1, h2, h3, h4⟩ := hg
  unfold Ieee.Toward.cut
  simp only [h1, h3, h4]
  cases way <;> simp <;> omega
theorem cut_zero (way : Ieee.Toward) (s : Bool) (k : Nat) : way.cut s k 0 = k := by
  have := cut_exact way s k 0
  rwa [Nat.pow_zero, Nat.mul_one] at this
theorem magn_zero : magn 0 = 0 := by decide
theorem magn_eq0 {r : Nat} (h : magn r = 0) : r = 0 := magn_inj.2.1 (h.trans magn_zero.symm)
theorem log_bounds {m i V : Nat} (hm : m ≠ 0) (h : m * 2 ^ i = V) : 2 ^ (m.log2 + i) ≤ V ∧ V < 2 ^ (m.log2 + i + 1) := by
  have h1 : 2 ^ m.log2 ≤ m := (Nat.le_log2 hm).1 (Nat.le_refl _)
  have h2 : m < 2 ^ (m.log2 + 1) := (Nat.log2_lt hm).1 (by omega)
  subst h
  rw [Nat.pow_add, show m.log2 + i + 1 = (m.log2 + 1) + i by omega, Nat.pow_add 2 (m.log2 + 1)]
  exact ⟨Nat.mul_le_mul_right _ h1, Nat.mul_lt_mul_of_pos_right h2 (Nat.two_pow_pos _)⟩
theorem pow_lt {a b : Nat} (h : 2 ^ a < 2 ^ b) : a < b := (Nat.pow_lt_pow_iff_right (by decide)).1 h
theorem mul_pow_sub {m i a q : Nat} (h : m * 2 ^ i = q * 2 ^ a) (ha : a ≤ i) : m * 2 ^ (i - a) = q := by
  have : m * 2 ^ (i - a) * 2 ^ a = q * 2 ^ a := by rw [Nat.mul_assoc, ← Nat.pow_add, Nat.sub_add_cancel ha, h]
  exact Nat.eq_of_mul_eq_mul_right (Nat.two_pow_pos _) this
theorem nearest_at {s : Bool} {m : Nat} {i : Nat} (hm : m ≠ 0) (a : Nat) (ha : (a : Int) = max ((m.log2 : Int) + i - 52) 0) :
    Ieee.double.nearest s m (leastP + i) = Ieee.double.word s (min (a * 2 ^ 52 + Ieee.Toward.even.cut s (m * 2 ^ (i - a)) (a - i)) infR) := by
  unfold Ieee.Format.nearest
  rw [if_neg hm]
  have hl : max (leastP + (i : Int) + (m.log2 : Int) - ((Ieee.double.fractionBits : Nat) : Int)) Ieee.double.leastPlace = leastP + (a : Int) := by
    have e : Ieee.double.leastPlace = leastP := by decide
    have e2 : ((Ieee.double.fractionBits : Nat) : Int) = 52 := by decide
    rw [e, e2, ha]
    omega
  simp only [hl]
  have e3 : Ieee.double.leastPlace = leastP := by decide
  rw [e3, show (leastP + (i : Int) - (leastP + (a : Int))).toNat = i - a by omega, show (leastP + (a : Int) - (leastP + (i : Int))).toNat = a - i by omega, show (leastP + (a : Int) - leastP).toNat = a by omega, Nat.shiftLeft_eq]
  rfl
theorem nearest_exact {s : Bool} {m r : Nat} (i : Nat) (h : m * 2 ^ i = magn r) (hf : r < infR) : Ieee.double.nearest s m (leastP + i) = Ieee.double.word s r := by
  by_cases hm : m = 0
  · subst hm
    rw [Nat.zero_mul] at h
    rw [magn_eq0 h.symm]
    simp [Ieee.Format.nearest]
  · have hb := log_bounds hm h
    by_cases h1 : r < 2 ^ 52
    · have hv : magn r = r := by simp [magn, h1]
      rw [hv] at h hb
      have : m.log2 + i < 52 := pow_lt (Nat.lt_of_le_of_lt hb.1 h1)
      rw [nearest_at hm 0 (by omega), Nat.sub_zero, Nat.zero_sub, cut_zero, h, Nat.zero_mul, Nat.zero_add, Nat.min_eq_left (Nat.le_of_lt hf)]
    · obtain ⟨a, f, hr, hff, hv⟩ : ∃ a f, r = (a + 1) * 2 ^ 52 + f ∧ f < 2 ^ 52 ∧ magn r = (2 ^ 52 + f) * 2 ^ a :=
        ⟨r / 2 ^ 52 - 1, r % 2 ^ 52, by omega, Nat.mod_lt _ (by decide), by simp [magn, h1]⟩
      rw [hv] at h hb
      have hp := Nat.two_pow_pos a
      have e1 : 2 ^ (m.log2 + i) < 2 ^ (53 + a) := by
        refine Nat.lt_of_le_of_lt hb.1 ?_
        rw [Nat.pow_add]
        exact Nat.mul_lt_mul_of_pos_right (by omega) hp
      have e2 : 2 ^ (52 + a) < 2 ^ (m.log2 + i + 1) := by
        refine Nat.lt_of_le_of_lt ?_ hb.2
        rw [Nat.pow_add]
        exact Nat.mul_le_mul_right _ (by omega)
      have e3 := pow_lt e1
      have e4 := pow_lt e2
      have hk : Ieee.Toward.even.cut s (m * 2 ^ (i - a)) (a - i) = 2 ^ 52 + f := by
        by_cases hia : a ≤ i
        · rw [show a - i = 0 by omega, cut_zero, mul_pow_sub h hia]
        · rw [show i - a = 0 by omega, Nat.pow_zero, Nat.mul_one, ← mul_pow_sub h.symm (by omega), cut_exact]
      rw [nearest_at hm a (by omega), hk, show a * 2 ^ 52 + (2 ^ 52 + f) = r by omega, Nat.min_eq_left (Nat.le_of_lt hf)]
def uP : Nat := 1074
theorem uP_eq : uP = 1074 := rfl
def unitV : Nat := 2 ^ uP
theorem unit_eq : unitV = 2 ^ uP := rfl
theorem whole_rung {k : Nat} (h : k ≤ 2 ^ 53) : ∃ r, r < infR ∧ magn r = k * unitV ∧ r ≤ 1076 * 2 ^ 52 := by
  have hu := unit_eq
  by_cases h0 : k = 0
  · exact ⟨0, by decide, by rw [h0, Nat.zero_mul]; exact magn_zero, by decide⟩
  by_cases h1 : k = 2 ^ 53
  · refine ⟨1076 * 2 ^ 52, by decide, ?_, Nat.le_refl _⟩
    unfold magn
    rw [if_neg (by omega), show 1076 * 2 ^ 52 % 2 ^ 52 = 0 by omega, show 1076 * 2 ^ 52 / 2 ^ 52 - 1 = 1 + uP by have := uP_eq; omega, Nat.add_zero, h1, hu, Nat.pow_add, ← Nat.mul_assoc]
  · have hl : k.log2 < 53 := (Nat.log2_lt h0).2 (by omega)
    have a1 : 2 ^ k.log2 ≤ k := (Nat.le_log2 h0).1 (Nat.le_refl _)
    have a2 : k < 2 ^ (k.log2 + 1) := (Nat.log2_lt h0).1 (by omega)
    have b1 : 2 ^ 52 ≤ k * 2 ^ (52 - k.log2) := by
      have := Nat.mul_le_mul_right (2 ^ (52 - k.log2)) a1
      rwa [← Nat.pow_add, Nat.add_sub_cancel' (show k.log2 ≤ 52 by omega)] at this
    have b2 : k * 2 ^ (52 - k.log2) < 2 ^ 53 := by
      have := Nat.mul_lt_mul_of_pos_right a2 (Nat.two_pow_pos (52 - k.log2))
      rwa [← Nat.pow_add, show k.log2 + 1 + (52 - k.log2) = 53 by omega] at this
    refine ⟨(k.log2 + 1023) * 2 ^ 52 + (k * 2 ^ (52 - k.log2) - 2 ^ 52), ?_, ?_, by omega⟩
    · unfold infR; omega
    · unfold magn
      rw [if_neg (by omega), show ((k.log2 + 1023) * 2 ^ 52 + (k * 2 ^ (52 - k.log2) - 2 ^ 52)) % 2 ^ 52 = k * 2 ^ (52 - k.log2) - 2 ^ 52 by omega,
        show ((k.log2 + 1023) * 2 ^ 52 + (k * 2 ^ (52 - k.log2) - 2 ^ 52)) / 2 ^ 52 - 1 = k.log2 + 1022 by omega, Nat.add_sub_cancel' b1, Nat.mul_assoc, ← Nat.pow_add, hu]
      have e : 52 - k.log2 + (k.log2 + 1022) = uP := by rw [uP_eq]; omega
      rw [e]
theorem unit_pos : 0 < unitV := by rw [unit_eq]; exact Nat.two_pow_pos _
theorem magn_part {r : Nat} (h : magn r % unitV ≠ 0) : magn r < 2 ^ 52 * unitV := by
  have hu := unit_eq
  unfold magn at *
  split at h
  · rename_i h1
    rw [if_pos h1]
    exact Nat.lt_of_lt_of_le h1 (Nat.le_mul_of_pos_right _ unit_pos)
  · rename_i h1
    rw [if_neg h1]
    have ha : r / 2 ^ 52 - 1 < uP := by
      apply Nat.lt_of_not_le
      intro hle
      apply h
      obtain ⟨c, hc⟩ := Nat.exists_eq_add_of_le hle
      rw [hc, Nat.pow_add, ← hu, Nat.mul_comm unitV, ← Nat.mul_assoc]
      exact Nat.mul_mod_left _ _
    have hf : r % 2 ^ 52 < 2 ^ 52 := Nat.mod_lt _ (by decide)
    obtain ⟨w, hw⟩ : ∃ w, uP = 1 + w := ⟨1073, rfl⟩
    calc (2 ^ 52 + r % 2 ^ 52) * 2 ^ (r / 2 ^ 52 - 1) ≤ (2 ^ 52 + r % 2 ^ 52) * 2 ^ w := Nat.mul_le_mul_left _ (Nat.pow_le_pow_right (by decide) (by omega))
      _ < (2 ^ 52 * 2 ^ 1) * 2 ^ w := Nat.mul_lt_mul_of_pos_right (by omega) (Nat.two_pow_pos _)
      _ = 2 ^ 52 * unitV := by rw [hu, hw, Nat.pow_add 2 1 w, Nat.mul_assoc]
def wholeK (way : Ieee.Toward) (s : Bool) (V : Nat) : Nat := V / unitV + (way == .down && s && V % unitV != 0).toNat
theorem integral_fin (way : Ieee.Toward) (hw : way = .down ∨ way = .zero) {s : Bool} {m a : Nat} :
    (Ieee.Datum.number s m (leastP + a)).integral way = .number s (wholeK way s (m * 2 ^ a)) (leastP + (uP : Nat)) := by
  show Ieee.Datum.number s (way.cut s (m <<< (leastP + (a : Int)).toNat) (-(leastP + (a : Int))).toNat) 0 = _
  have hp := uP_eq
  have e0 : leastP + ((uP : Nat) : Int) = 0 := by decide
  rw [e0]
  congr 1
  have hu := unit_eq
  rw [Nat.shiftLeft_eq]
  have hl : leastP = -1074 := rfl
  by_cases h : uP ≤ a
  · obtain ⟨c, rfl⟩ := Nat.exists_eq_add_of_le h
    rw [show (leastP + ((uP + c : Nat) : Int)).toNat = c by omega, show (-(leastP + ((uP + c : Nat) : Int))).toNat = 0 by omega, cut_zero]
    unfold wholeK
    have e : m * 2 ^ (uP + c) = m * 2 ^ c * unitV := by rw [Nat.pow_add, ← hu, Nat.mul_comm unitV, Nat.mul_assoc]
    rw [e, Nat.mul_div_cancel _ unit_pos, Nat.mul_mod_left]
    simp
  · rw [show (leastP + (a : Int)).toNat = 0 by omega, Nat.pow_zero, Nat.mul_one]
    obtain ⟨d, hd⟩ : ∃ d, (-(leastP + (a : Int))).toNat = d ∧ d + a = uP := ⟨_, rfl, by omega⟩
    rw [hd.1]
    have hU : unitV = 2 ^ d * 2 ^ a := by rw [← Nat.pow_add, hd.2, hu]
    have q1 : m * 2 ^ a / unitV = m / 2 ^ d := by rw [hU]; exact Nat.mul_div_mul_right _ _ (Nat.two_pow_pos _)
    have q2 : m * 2 ^ a % unitV = m % 2 ^ d * 2 ^ a := by rw [hU]; exact Nat.mul_mod_mul_right _ _ _
    have q3 : (m * 2 ^ a % unitV != 0) = (m % 2 ^ d != 0) := by
      rw [q2, Bool.eq_iff_iff]
      have := Nat.ne_of_gt (Nat.two_pow_pos a)
      simp only [bne_iff_ne, ne_eq, Nat.mul_eq_zero, this, or_false]
    unfold wholeK
    rw [q1, q3]
    unfold Ieee.Toward.cut
    have hg : ∃ g, 1 <<< min d (m.log2 + 2) = g ∧ m / g = m / 2 ^ d ∧ m % g = m % 2 ^ d := by
      refine ⟨_, rfl, ?_⟩
      rw [Nat.shiftLeft_eq, Nat.one_mul]
      by_cases hle : d ≤ m.log2 + 2
      · rw [Nat.min_eq_left hle]; exact ⟨rfl, rfl⟩
      · rw [Nat.min_eq_right (by omega)]
        have l1 : m < 2 ^ (m.log2 + 2) := by
          by_cases hm : m = 0
          · subst hm; exact Nat.two_pow_pos _
          · exact Nat.lt_trans ((Nat.log2_lt hm).1 (Nat.lt_succ_self _)) (Nat.pow_lt_pow_right (by decide) (by omega))
        have l2 : m < 2 ^ d := Nat.lt_of_lt_of_le l1 (Nat.pow_le_pow_right (by decide) (by omega))
        rw [Nat.div_eq_of_lt l1, Nat.div_eq_of_lt l2, Nat.mod_eq_of_lt l1, Nat.mod_eq_of_lt l2]
        exact ⟨rfl, rfl⟩
    obtain ⟨g, g1, g2, g3⟩ := hg
    simp only [g1, g2, g3]
    rcases hw with rfl | rfl
    · rfl
    · simp
theorem write_number {s : Bool} {k i r : Nat} (h : k * 2 ^ i = magn r) (hf : r < infR) : Ieee.double.write (.number s k (leastP + i)) = Ieee.double.word s r := nearest_exact i h hf
theorem integral_word (way : Ieee.Toward) (hw : way = .down ∨ way = .zero) {b : Nat} (hb : rung b < infR) :
    ∃ r, r < infR ∧ Ieee.double.write ((rdw b).integral way) = Ieee.double.word (sgn b) r ∧ magn r = wholeK way (sgn b) (magn (rung b)) * unitV := by
  obtain ⟨m, a, hd, hm⟩ := rdw_finite hb
  rw [hd, integral_fin way hw, hm]
  have key : ∃ r, r < infR ∧ magn r = wholeK way (sgn b) (magn (rung b)) * unitV := by
    by_cases hz : magn (rung b) % unitV = 0
    · refine ⟨rung b, hb, ?_⟩
      unfold wholeK
      rw [hz]
      have := Nat.div_add_mod (magn (rung b)) unitV
      rw [hz, Nat.add_zero, Nat.mul_comm] at this
      simp [this]
    · have h1 : magn (rung b) / unitV < 2 ^ 52 := (Nat.div_lt_iff_lt_mul unit_pos).2 (magn_part hz)
      have hb1 : ∀ b : Bool, b.toNat ≤ 1 := fun b => by cases b <;> decide
      have h2 : wholeK way (sgn b) (magn (rung b)) ≤ 2 ^ 53 := by unfold wholeK; have := hb1 (way == .down && sgn b && magn (rung b) % unitV != 0); omega
      obtain ⟨r, r1, r2, _⟩ := whole_rung h2
      exact ⟨r, r1, r2⟩
  obtain ⟨r, r1, r2⟩ := key
  exact ⟨r, r1, write_number (by rw [r2, unit_eq]) r1, r2⟩
end Go.Proofs.YtmccnmahegbmpaaGreat.J

/- Numbers: the laws of the floor, of whole numbers there and back, and of the page's own answers. -/
namespace Go.Proofs.YtmccnmahegbmpaaGreat.J
open Go Go.RowKit
def svF (s : Bool) (V : Nat) : Int := if s then -(V : Int) else V
theorem word_parts {s : Bool} {r : Nat} (h : r < infR) : rung (Ieee.double.word s r) = r ∧ sgn (Ieee.double.word s r) = s ∧ Ieee.double.word s r < 2 ^ 64 := word_rung (Nat.lt_trans h infR_lt)
end Go.Proofs.YtmccnmahegbmpaaGreat.J

/- Numbers: whole numbers there and back, and the page's own floor. -/
namespace Go.Proofs.YtmccnmahegbmpaaGreat.J
open Go Go.RowKit
def isWhole (b : Nat) : Prop := magn (rung b) % unitV = 0
instance (b : Nat) : Decidable (isWhole b) := inferInstanceAs (Decidable (_ = _))
def mostR : Nat := 1076 * 2 ^ 52
def intE (b : Nat) : Int := if infR ≤ rung b ∨ ¬ isWhole b then 7 else if mostR < rung b then 4 else 0
def intV (b : Nat) : Int := if infR ≤ rung b ∨ ¬ isWhole b ∨ mostR < rung b then 0 else svF (sgn b) (magn (rung b) / unitV)
theorem magn_most : magn mostR = 2 ^ 53 * unitV := by
  obtain ⟨r, h1, h2, h3⟩ := whole_rung (k := 2 ^ 53) (Nat.le_refl _)
  have hu := unit_eq
  rw [show mostR = 1076 * 2 ^ 52 from rfl]
  unfold magn
  rw [if_neg (by omega), show 1076 * 2 ^ 52 % 2 ^ 52 = 0 by omega, show 1076 * 2 ^ 52 / 2 ^ 52 - 1 = 1 + uP by have := uP_eq; omega, Nat.add_zero, hu, Nat.pow_add, ← Nat.mul_assoc]
theorem whole_mul {V : Nat} (h : V % unitV = 0) : V / unitV * unitV = V := by
  have := Nat.div_add_mod V unitV
  rw [h, Nat.add_zero, Nat.mul_comm] at this
  exact this
theorem trunc_whole {b : Nat} (hb : b < 2 ^ 64) (hf : rung b < infR) : (ford b (truncN b) != some .eq) = !decide (isWhole b) := by
  obtain ⟨r, h1, h2, h3⟩ := integral_word .zero (.inr rfl) hf
  obtain ⟨w1, w2, w3⟩ := word_parts (s := sgn b) h1
  have e : truncN b = Ieee.double.word (sgn b) r := h2
  have hk : wholeK .zero (sgn b) (magn (rung b)) = magn (rung b) / unitV := by unfold wholeK; simp
  rw [hk] at h3
  have n1 : isNan b = false := by rw [isNan_eq]; exact decide_eq_false (by omega)
  have n2 : isNan (truncN b) = false := by rw [e]; exact isNan_word (Nat.le_of_lt h1)
  have h4 : (sr b = sr (truncN b)) ↔ isWhole b := by
    unfold sr
    rw [e, w1, w2]
    have : rung b = r ↔ isWhole b := by
      constructor
      · intro h; unfold isWhole; rw [h, h3]; exact Nat.mul_mod_left _ _
      · intro h; rw [whole_mul h] at h3; exact (magn_inj.2.1 h3).symm
    rw [← this]
    split <;> omega
  have h5 := ford_eql n1 n2
  rw [bne, h5]
  rw [decide_eq_decide.2 h4]
theorem trunc_int {b : Nat} (hf : rung b < infR) : (FloatKind.f64.decode b).toInt .zero = some (svF (sgn b) (magn (rung b) / unitV)) := by
  obtain ⟨m, a, hd, hm⟩ := rdw_finite hf
  show (rdw b).toInt .zero = _
  unfold Ieee.Datum.toInt
  rw [hd, integral_fin .zero (.inr rfl), hm]
  show some (Ieee.signed (sgn b) _ 0) = _
  have hk : wholeK .zero (sgn b) (magn (rung b)) = magn (rung b) / unitV := by unfold wholeK; simp
  rw [signed_eq, hk, Int.pow_zero, Int.mul_one]; rfl
theorem small_whole {b : Nat} (h : rung b ≤ mostR) : magn (rung b) / unitV ≤ 2 ^ 53 := by
  have h1 : ¬ magn mostR < magn (rung b) := fun h' => by have := magn_inj.1.1 h'; omega
  rw [magn_most] at h1
  have := Nat.div_le_div_right (c := unitV) (Nat.not_lt.1 h1)
  rwa [Nat.mul_div_cancel _ unit_pos] at this
theorem int_t {b : Nat} (h : infR ≤ rung b ∨ ¬ isWhole b) : intV b = 0 ∧ intE b = 7 := by
  unfold intV intE
  exact ⟨if_pos (h.elim .inl fun h => .inr (.inl h)), if_pos h⟩
theorem int_r {b : Nat} (hf : rung b < infR) (hw : isWhole b) (h : mostR < rung b) : intV b = 0 ∧ intE b = 4 := by
  unfold intV intE
  exact ⟨if_pos (.inr (.inr h)), by rw [if_neg (fun h' => h'.elim (fun h => by omega) (fun h => h hw)), if_pos h]⟩
theorem int_o {b : Nat} (hf : rung b < infR) (hw : isWhole b) (h : rung b ≤ mostR) : intV b = svF (sgn b) (magn (rung b) / unitV) ∧ intE b = 0 := by
  unfold intV intE
  exact ⟨if_neg (fun h' => h'.elim (fun h => by omega) (fun h' => h'.elim (fun h => h hw) (fun h => by omega))), by rw [if_neg (fun h' => h'.elim (fun h => by omega) (fun h => h hw)), if_neg (by omega)]⟩
theorem sv_fits {s : Bool} {K : Nat} (h : K ≤ 2 ^ 53) : -9223372036854775808 ≤ svF s K ∧ svF s K ≤ 9223372036854775807 := by
  unfold svF; split <;> omega
theorem nearest_lt {n : Int} : FloatKind.f64.nearest n < 2 ^ 64 := write_lt64 (.number (n < 0) n.natAbs 0)
theorem near_word {n : Int} (h : -9007199254740992 ≤ n ∧ n ≤ 9007199254740992) : ∃ r, r < infR ∧ r ≤ mostR ∧ FloatKind.f64.nearest n = Ieee.double.word (decide (n < 0)) r ∧ magn r = n.natAbs * unitV := by
  obtain ⟨r, h1, h2, h3⟩ := whole_rung (k := n.natAbs) (by omega)
  refine ⟨r, h1, h3, ?_, h2⟩
  have e0 : leastP + ((uP : Nat) : Int) = 0 := by decide
  show Ieee.double.write (.number (decide (n < 0)) n.natAbs 0) = _
  rw [← e0]
  exact write_number (by rw [h2, unit_eq]) h1
/-! ### the page's own floor -/
end Go.Proofs.YtmccnmahegbmpaaGreat.J

/- Walks: the order of numbers, for the seats that reach no more of floats. -/
namespace Go.Proofs.YtmccnmahegbmpaaGreat.J
open Go Go.RowKit
set_option maxRecDepth 10000
set_option maxHeartbeats 4000000
theorem order_ok (b : Nat) (hb : b < 2 ^ 64) : Fn Tryz.prog 138 [.c (.int .u64 (b : Int))] (.c (.int .u64 (orderN b : Int))) := by
  refine AC.of_J Tryz.func138 rfl Tryz.ntmps138 rfl fun w0 A0 => ?_
  refine Zs (Zq rfl (QW.assign .const) (Zn (J.seq (Zs (Zq rfl (QW.move (.tmp rfl)) (Zq rfl (QW.ext (extFrom _) (.tmp rfl)) (Zq rfl (QW.assign (.tmp rfl)) (Zn (Zs ?_)))))))))
  refine Zq rfl (QW.move (.tmp rfl)) (Zq rfl (QW.move (.tmp rfl)) (Zq rfl (QW.neq_f (.tmp rfl) (.tmp rfl)) (Zn ?_)))
  refine J.cond (.tmp rfl) (fun c1 => ?_) (fun c1 => ?_)
  ·
    rw [fneq_self] at c1
    refine Zs (Zq rfl (QW.assign .const) (Zn (J.ret (thenQ.r ?_))))
    exact ⟨_, [], _, RetEv.one rfl (REv.tmp rfl lr), rfl, List.Perm.refl _, by simp [orderN, c1], rfl⟩
  ·
    rw [fneq_self] at c1
    refine Zk (Zs (Zq rfl (QW.move (.tmp rfl)) (Zq rfl (QW.move (.tmp rfl)) (Zq rfl (QW.conv_int us22 iu2 (.tmp rfl) rfl) (Zq rfl (QW.shr (.tmp rfl) .const (by decide) rfl) ?_)))))
    refine Zq rfl (QW.conv_int us2 iu22 (.tmp rfl) rfl) (Zq rfl (QW.or (.tmp rfl) .const rfl) (Zq rfl (QW.xor (.tmp rfl) (.tmp rfl) rfl) (Zq rfl (QW.assign (.tmp rfl)) (Zn (J.ret ?_)))))
    exact ⟨_, [], _, RetEv.one rfl (REv.tmp rfl lr), rfl, List.Perm.refl _, by rw [← order_bits hb c1]; rfl, rfl⟩
end Go.Proofs.YtmccnmahegbmpaaGreat.J

/- Walks: numbers (the package float): classes, operations, floors. -/
namespace Go.Proofs.YtmccnmahegbmpaaGreat.J
open Go Go.RowKit
set_option maxRecDepth 10000
set_option maxHeartbeats 4000000
theorem class_fin {b : Nat} : classN b < 4 ↔ rung b < infR := by
  unfold classN
  rw [isNan_eq]
  by_cases h1 : infR < rung b
  · rw [if_pos (by simpa using h1)]; omega
  · rw [if_neg (by simpa using h1)]
    by_cases h2 : rung b = infR
    · rw [if_pos h2]; omega
    · rw [if_neg h2]
      (repeat' split) <;> omega
theorem class_ge {b : Nat} : 4 ≤ classN b ↔ infR ≤ rung b := by
  have := @class_fin b
  omega
theorem abs_ok (b : Nat) (hb : b < 2 ^ 64) : Fn Tryz.prog 146 [.c (flt b)] (.c (flt (b % 2 ^ 63))) := by
  refine AC.of_J Tryz.func146 rfl Tryz.ntmps146 rfl fun w0 A0 => ?_
  refine Zs (Zq rfl (QW.assign .const) (Zn (Zs (Zq rfl (QW.move (.tmp rfl)) (Zq rfl (QW.ext (extBits _) (.tmp rfl)) (Zq rfl (QW.andNot (.tmp rfl) .const (absbits b hb)) (Zq rfl (QW.ext (extFrom _) (.tmp rfl)) (Zq rfl (QW.assign (.tmp rfl)) (Zn ?_)))))))))
  refine J.ret ?_
  exact ⟨_, [], _, RetEv.one rfl (REv.tmp rfl lr), rfl, List.Perm.refl _, rfl, rfl⟩
theorem isinf_ok (b : Nat) (hb : b < 2 ^ 64) : Fn Tryz.prog 148 [.c (flt b), .c (.int .i64 0)] (.c (.bool (decide (rung b = infR)))) := by
  refine AC.of_J Tryz.func148 rfl Tryz.ntmps148 rfl fun w0 A0 => ?_
  refine Zs (Zq rfl (QW.assign .const) (Zn (J.seq (Zs (Zq rfl (QW.move (.tmp rfl)) (Zq rfl (QW.eql (.tmp rfl) .const) (Zn ?_)))))))
  refine J.cond (.tmp rfl) (fun c1 => ?_) (fun c1 => absurd c1 (by decide))
  refine J.region_lit (Zq rfl (QW.move (.tmp rfl)) (Zq rfl (QW.call gofn146 (.cons (.tmp rfl) .nil) (by (apply abs_ok <;> first | assumption | omega))) ?_))
  refine Zq rfl (QW.assign (.tmp rfl)) (Zn (Zs (Zq rfl (QW.move (.tmp rfl)) (Zq rfl (QW.gtr_f (.tmp rfl) .const) (Zq rfl (QW.assign (.tmp rfl)) (Zn (J.ret ?_)))))))
  exact ⟨_, [], _, RetEv.one rfl (REv.tmp rfl lr), rfl, List.Perm.refl _, by
      by_cases hn : isNan b = true
      · rw [ford_nanL (by rw [isNan_abs]; exact hn)]
        rw [isNan_eq] at hn; simp at hn
        congr 3; simp; omega
      · rw [ford_gt (by rw [isNan_abs]; simpa using hn) (by decide), sr_abs]
        rw [isNan_eq] at hn; simp at hn
        congr 3
        rw [show sr 9218868437227405311 = 9218868437227405311 by decide]
        simp; unfold infR at *; omega, rfl⟩
theorem signbit_ok (b : Nat) (hb : b < 2 ^ 64) : Fn Tryz.prog 152 [.c (flt b)] (.c (.bool (decide (2 ^ 63 ≤ b)))) := by
  refine AC.of_J Tryz.func152 rfl Tryz.ntmps152 rfl fun w0 A0 => ?_
  refine Zs (Zq rfl (QW.assign .const) (Zn (Zs (Zq rfl (QW.move (.tmp rfl)) (Zq rfl (QW.ext (extBits _) (.tmp rfl)) (Zq rfl (QW.conv_int us22 iu2 (.tmp rfl) rfl) (Zq rfl (QW.lss (.tmp rfl) .const) (Zq rfl (QW.assign (.tmp rfl)) (Zn ?_)))))))))
  refine J.ret ?_
  exact ⟨_, [], _, RetEv.one rfl (REv.tmp rfl lr), rfl, List.Perm.refl _, by
      congr 3
      rw [decide_eq_decide]
      by_cases h : 2 ^ 63 ≤ b
      · rw [wrap_i64_hi h hb]; omega
      · rw [w64 (by omega)]; omega, rfl⟩
theorem class_ok (b : Nat) (hb : b < 2 ^ 64) : Fn Tryz.prog 144 [.c (.int .u64 (b : Int))] (.c (.int .i64 (classN b))) := by
  refine AC.of_J Tryz.func144 rfl Tryz.ntmps144 rfl fun w0 A0 => ?_
  refine Zs (Zq rfl (QW.assign .const) (Zn (Zs (Zq rfl (QW.move (.tmp rfl)) (Zq rfl (QW.ext (extFrom _) (.tmp rfl)) (Zq rfl (QW.assign (.tmp rfl)) (Zn (Zs (Zq rfl (QW.move (.tmp rfl)) ?_)))))))))
  refine Zq rfl (QW.call gofn146 (.cons (.tmp rfl) .nil) (by (apply abs_ok <;> first | assumption | omega))) ?_
  refine Zq rfl (QW.assign (.tmp rfl)) (Zn (J.seq (J.block (Zs (Zq rfl (QW.move (.tmp rfl)) (Zq rfl (QW.move (.tmp rfl)) (Zq rfl (QW.neq_f (.tmp rfl) (.tmp rfl)) (Zq rfl (QW.assign (.tmp rfl)) (Zn ?_)))))))))
  refine J.cond (.tmp rfl) (fun c1 => ?_) (fun c1 => ?_)
  ·
    rw [fneq_self] at c1
    refine Zs (Zq rfl (QW.assign .const) (Zn (J.ret (blkQ.r (thenQ.r ?_)))))
    exact ⟨_, [], _, RetEv.one rfl (REv.tmp rfl lr), rfl, List.Perm.refl _, by simp [classN, c1], rfl⟩
  ·
    rw [fneq_self] at c1
    have ha : isNan (b % 2 ^ 63) = false := by rw [isNan_abs]; exact c1
    refine Zs (Zq rfl (QW.move (.tmp rfl)) (Zq rfl (QW.call gofn148 (.cons (.tmp rfl) (.cons (.const) .nil)) (by (apply isinf_ok <;> first | assumption | omega))) ?_))
    refine Zq rfl (QW.assign (.tmp rfl)) (Zn ?_)
    refine J.cond (.tmp rfl) (fun c2 => ?_) (fun c2 => ?_)
    ·
      simp at c2
      refine Zs (Zq rfl (QW.assign .const) (Zn (J.ret (blkQ.r (thenQ.r ?_)))))
      exact ⟨_, [], _, RetEv.one rfl (REv.tmp rfl lr), rfl, List.Perm.refl _, by simp [classN, c1, c2], rfl⟩
    ·
      simp at c2
      refine Zs (Zq rfl (QW.move (.tmp rfl)) (Zq rfl (QW.geq_f (.tmp rfl) .const) (Zq rfl (QW.assign (.tmp rfl)) (Zn ?_))))
      refine J.cond (.tmp rfl) (fun c3 => ?_) (fun c3 => ?_)
      ·
        rw [ford_gt ha (by decide), ford_eql ha (by decide), sr_abs, show sr 4503599627370496 = 4503599627370496 by decide] at c3; simp at c3
        refine Zs (Zq rfl (QW.assign .const) (Zn (J.ret (blkQ.r (thenQ.r ?_)))))
        exact ⟨_, [], _, RetEv.one rfl (REv.tmp rfl lr), rfl, List.Perm.refl _, by unfold classN; rw [c1, if_neg (by decide), if_neg c2, if_pos (by omega)], rfl⟩
      ·
        rw [ford_gt ha (by decide), ford_eql ha (by decide), sr_abs, show sr 4503599627370496 = 4503599627370496 by decide] at c3; simp at c3
        refine Zs (Zq rfl (QW.move (.tmp rfl)) (Zq rfl (QW.gtr_f (.tmp rfl) .const) (Zq rfl (QW.assign (.tmp rfl)) (Zn ?_))))
        refine J.cond (.tmp rfl) (fun c4 => ?_) (fun c4 => ?_)
        ·
          rw [ford_gt ha (by decide), sr_abs, show sr 0 = 0 by decide] at c4; simp at c4
          refine Zs (Zq rfl (QW.assign .const) (Zn (J.ret (blkQ.r (thenQ.r ?_)))))
          exact ⟨_, [], _, RetEv.one rfl (REv.tmp rfl lr), rfl, List.Perm.refl _, by unfold classN; rw [c1, if_neg (by decide), if_neg c2, if_neg (by omega), if_pos (by omega)], rfl⟩
        ·
          rw [ford_gt ha (by decide), sr_abs, show sr 0 = 0 by decide] at c4; simp at c4
          refine Zs (Zq rfl (QW.move (.tmp rfl)) (Zq rfl (QW.call gofn152 (.cons (.tmp rfl) .nil) (by (apply signbit_ok <;> first | assumption | omega))) ?_))
          refine Zq rfl (QW.assign (.tmp rfl)) (Zn ?_)
          refine J.cond (.tmp rfl) (fun c5 => ?_) (fun c5 => ?_)
          ·
            simp at c5
            refine Zs (Zq rfl (QW.assign .const) (Zn (J.ret (blkQ.r (thenQ.r ?_)))))
            exact ⟨_, [], _, RetEv.one rfl (REv.tmp rfl lr), rfl, List.Perm.refl _, by unfold classN; rw [c1, if_neg (by decide), if_neg c2, if_neg (by omega), if_neg (by omega), if_pos (by omega)], rfl⟩
          ·
            simp at c5
            refine J.skip (blkQ.n (thenQ.n (Zs (Zq rfl (QW.assign .const) (Zn (J.ret ?_))))))
            exact ⟨_, [], _, RetEv.one rfl (REv.tmp rfl lr), rfl, List.Perm.refl _, by unfold classN; rw [c1, if_neg (by decide), if_neg c2, if_neg (by omega), if_neg (by omega), if_neg (by omega)], rfl⟩
theorem two_ok (op : BinOp) (g : Nat) (a b : Nat) (hgo : goFn Tryz.prog g = true) (hg : FnR Tryz.prog g [.c (flt a), .c (flt b)] (fun z => ∃ c, z = .c (flt c) ∧ (farithN op a b = some c ∨ (farithN op a b = none ∧ nanAny c)))) : Fn Tryz.prog 130 [.c (.int .u64 (a : Int)), .c (.int .u64 (b : Int)), .c (.func (.func g) #[] #[])] (.c (.int .u64 (arithN op a b : Int))) := by
  refine AC.of_J Tryz.func130 rfl Tryz.ntmps130 rfl fun w0 A0 => ?_
  refine Zs (Zq rfl (QW.assign .const) (Zn (Zs (Zq rfl (QW.move (.tmp rfl)) (Zq rfl (QW.move (.tmp rfl)) (Zq rfl (QW.ext (extFrom _) (.tmp rfl)) (Zq rfl (QW.move (.tmp rfl)) (Zq rfl (QW.ext (extFrom _) (.tmp rfl)) (JL.callV0 (fi := []) (ca := []) hgo rfl (.tmp rfl) (.cons (.tmp rfl) (.cons (.tmp rfl) .nil)) rfl (hg) ?_)))))))))
  rintro _ ⟨x12, rfl, h12⟩
  refine Zq rfl (QW.call gofn81 (.cons (.tmp rfl) .nil) (by (apply of_ok <;> first | assumption | omega))) ?_
  refine Zq rfl (QW.assign (.tmp rfl)) (Zn (J.ret ?_))
  exact ⟨_, [], _, RetEv.one rfl (REv.tmp rfl lr), rfl, List.Perm.refl _, by rw [arith_canon h12], rfl⟩
theorem fadd_ok (a b : Nat) : FnR Tryz.prog 131 [.c (flt a), .c (flt b)] (fun z => ∃ c, z = .c (flt c) ∧ (farithN .add a b = some c ∨ (farithN .add a b = none ∧ nanAny c))) := by
  refine AC.of_J Tryz.func131 rfl Tryz.ntmps131 rfl fun w0 A0 => ?_
  refine Zs (Zq rfl (QW.assign .const) (Zn (Zs (Zq rfl (QW.move (.tmp rfl)) (Zq rfl (QW.move (.tmp rfl)) (JL.farith (by decide) (.tmp rfl) (.tmp rfl) rfl fun x7 h7 => ?_))))))
  refine Zq rfl (QW.assign (.tmp rfl)) (Zn (J.ret ?_))
  exact ⟨_, [], _, RetEv.one rfl (REv.tmp rfl lr), rfl, List.Perm.refl _, rfl, _, rfl, ⟨_, rfl, by assumption⟩⟩
theorem add_ok (a b : Nat) : Fn Tryz.prog 119 [.c (.int .u64 (a : Int)), .c (.int .u64 (b : Int))] (.c (.int .u64 (arithN .add a b : Int))) := by
  refine AC.of_J Tryz.func119 rfl Tryz.ntmps119 rfl fun w0 A0 => ?_
  refine Zs (Zq rfl (QW.assign .const) (Zn (Zs (Zq rfl (QW.move (.tmp rfl)) (Zq rfl (QW.move (.tmp rfl)) (Zq rfl (QW.call gofn130 (.cons (.tmp rfl) (.cons (.tmp rfl) (.cons .func .nil))) (two_ok .add _ _ _ gofn131 (fadd_ok _ _))) (Zq rfl (QW.assign (.tmp rfl)) (Zn (J.ret ?_)))))))))
  exact ⟨_, [], _, RetEv.one rfl (REv.tmp rfl lr), rfl, List.Perm.refl _, rfl, rfl⟩
theorem fsub_ok (a b : Nat) : FnR Tryz.prog 132 [.c (flt a), .c (flt b)] (fun z => ∃ c, z = .c (flt c) ∧ (farithN .sub a b = some c ∨ (farithN .sub a b = none ∧ nanAny c))) := by
  refine AC.of_J Tryz.func132 rfl Tryz.ntmps132 rfl fun w0 A0 => ?_
  refine Zs (Zq rfl (QW.assign .const) (Zn (Zs (Zq rfl (QW.move (.tmp rfl)) (Zq rfl (QW.move (.tmp rfl)) (JL.farith (by decide) (.tmp rfl) (.tmp rfl) rfl fun x7 h7 => ?_))))))
  refine Zq rfl (QW.assign (.tmp rfl)) (Zn (J.ret ?_))
  exact ⟨_, [], _, RetEv.one rfl (REv.tmp rfl lr), rfl, List.Perm.refl _, rfl, _, rfl, ⟨_, rfl, by assumption⟩⟩
theorem sub_ok (a b : Nat) : Fn Tryz.prog 120 [.c (.int .u64 (a : Int)), .c (.int .u64 (b : Int))] (.c (.int .u64 (arithN .sub a b : Int))) := by
  refine AC.of_J Tryz.func120 rfl Tryz.ntmps120 rfl fun w0 A0 => ?_
  refine Zs (Zq rfl (QW.assign .const) (Zn (Zs (Zq rfl (QW.move (.tmp rfl)) (Zq rfl (QW.move (.tmp rfl)) (Zq rfl (QW.call gofn130 (.cons (.tmp rfl) (.cons (.tmp rfl) (.cons .func .nil))) (two_ok .sub _ _ _ gofn132 (fsub_ok _ _))) (Zq rfl (QW.assign (.tmp rfl)) (Zn (J.ret ?_)))))))))
  exact ⟨_, [], _, RetEv.one rfl (REv.tmp rfl lr), rfl, List.Perm.refl _, rfl, rfl⟩
theorem fmul_ok (a b : Nat) : FnR Tryz.prog 133 [.c (flt a), .c (flt b)] (fun z => ∃ c, z = .c (flt c) ∧ (farithN .mul a b = some c ∨ (farithN .mul a b = none ∧ nanAny c))) := by
  refine AC.of_J Tryz.func133 rfl Tryz.ntmps133 rfl fun w0 A0 => ?_
  refine Zs (Zq rfl (QW.assign .const) (Zn (Zs (Zq rfl (QW.move (.tmp rfl)) (Zq rfl (QW.move (.tmp rfl)) (JL.farith (by decide) (.tmp rfl) (.tmp rfl) rfl fun x7 h7 => ?_))))))
  refine Zq rfl (QW.assign (.tmp rfl)) (Zn (J.ret ?_))
  exact ⟨_, [], _, RetEv.one rfl (REv.tmp rfl lr), rfl, List.Perm.refl _, rfl, _, rfl, ⟨_, rfl, by assumption⟩⟩
theorem mul_ok (a b : Nat) : Fn Tryz.prog 121 [.c (.int .u64 (a : Int)), .c (.int .u64 (b : Int))] (.c (.int .u64 (arithN .mul a b : Int))) := by
  refine AC.of_J Tryz.func121 rfl Tryz.ntmps121 rfl fun w0 A0 => ?_
  refine Zs (Zq rfl (QW.assign .const) (Zn (Zs (Zq rfl (QW.move (.tmp rfl)) (Zq rfl (QW.move (.tmp rfl)) (Zq rfl (QW.call gofn130 (.cons (.tmp rfl) (.cons (.tmp rfl) (.cons .func .nil))) (two_ok .mul _ _ _ gofn133 (fmul_ok _ _))) (Zq rfl (QW.assign (.tmp rfl)) (Zn (J.ret ?_)))))))))
  exact ⟨_, [], _, RetEv.one rfl (REv.tmp rfl lr), rfl, List.Perm.refl _, rfl, rfl⟩
theorem fquo_ok (a b : Nat) : FnR Tryz.prog 134 [.c (flt a), .c (flt b)] (fun z => ∃ c, z = .c (flt c) ∧ (farithN .quo a b = some c ∨ (farithN .quo a b = none ∧ nanAny c))) := by
  refine AC.of_J Tryz.func134 rfl Tryz.ntmps134 rfl fun w0 A0 => ?_
  refine Zs (Zq rfl (QW.assign .const) (Zn (Zs (Zq rfl (QW.move (.tmp rfl)) (Zq rfl (QW.move (.tmp rfl)) (JL.farith (by decide) (.tmp rfl) (.tmp rfl) rfl fun x7 h7 => ?_))))))
  refine Zq rfl (QW.assign (.tmp rfl)) (Zn (J.ret ?_))
  exact ⟨_, [], _, RetEv.one rfl (REv.tmp rfl lr), rfl, List.Perm.refl _, rfl, _, rfl, ⟨_, rfl, by assumption⟩⟩
theorem quo_ok (a b : Nat) : Fn Tryz.prog 122 [.c (.int .u64 (a : Int)), .c (.int .u64 (b : Int))] (.c (.int .u64 (arithN .quo a b : Int))) := by
  refine AC.of_J Tryz.func122 rfl Tryz.ntmps122 rfl fun w0 A0 => ?_
  refine Zs (Zq rfl (QW.assign .const) (Zn (Zs (Zq rfl (QW.move (.tmp rfl)) (Zq rfl (QW.move (.tmp rfl)) (Zq rfl (QW.call gofn130 (.cons (.tmp rfl) (.cons (.tmp rfl) (.cons .func .nil))) (two_ok .quo _ _ _ gofn134 (fquo_ok _ _))) (Zq rfl (QW.assign (.tmp rfl)) (Zn (J.ret ?_)))))))))
  exact ⟨_, [], _, RetEv.one rfl (REv.tmp rfl lr), rfl, List.Perm.refl _, rfl, rfl⟩
theorem findFloor : Extern.find Tryz.f135 = some (Extern.MathFloor.toIntegral "math.archFloor" .down) := by kernel_rfl
theorem extFloor (b : Nat) (w : World) : (callFunc 135 #[flt b]).run Tryz.prog w = ((Extern.MathFloor.toIntegral "math.archFloor" .down #[flt b]).run Tryz.prog w).andThen fun v w => .ok (.value v) w :=
  callFunc_ext Tryz.func135 (by kernel_rfl) (by kernel_rfl) (by kernel_rfl) findFloor _ _
theorem mfloor_ok (b : Nat) : FnR Tryz.prog 123 [.c (flt b)] (fun z => ∃ c, z = .c (flt c) ∧ ((isNan b = false ∧ c = floorN b) ∨ (isNan b = true ∧ isNan c = true))) := by
  refine AC.of_J Tryz.func123 rfl Tryz.ntmps123 rfl fun w0 A0 => ?_
  refine Zs (Zq rfl (QW.assign .const) (Zn (J.seq ?_)))
  refine J.cond .const (fun c1 => ?_) (fun c1 => absurd c1 (by decide))
  refine Zs (Zq rfl (QW.move (.tmp rfl)) (JL.arch extFloor (.tmp rfl) rfl fun x4 h4 => Zq rfl (QW.assign (.tmp rfl)) (Zn (J.ret (thenQ.r ?_)))))
  exact ⟨_, [], _, RetEv.one rfl (REv.tmp rfl lr), rfl, List.Perm.refl _, rfl, _, rfl, ⟨_, rfl, h4⟩⟩
theorem floor_ok (b : Nat) : Fn Tryz.prog 112 [.c (.int .u64 (b : Int))] (.c (.int .u64 (floorC b : Int))) := by
  refine AC.of_J Tryz.func112 rfl Tryz.ntmps112 rfl fun w0 A0 => ?_
  refine Zs (Zq rfl (QW.assign .const) (Zn (Zs (Zq rfl (QW.move (.tmp rfl)) (Zq rfl (QW.ext (extFrom _) (.tmp rfl)) (JL.call0 gofn123 rfl (.cons (.tmp rfl) .nil) (mfloor_ok _) ?_))))))
  rintro _ ⟨x5, rfl, h5⟩
  refine Zq rfl (QW.call gofn81 (.cons (.tmp rfl) .nil) (by (apply of_ok <;> first | assumption | omega))) ?_
  refine Zq rfl (QW.assign (.tmp rfl)) (Zn (J.ret ?_))
  exact ⟨_, [], _, RetEv.one rfl (REv.tmp rfl lr), rfl, List.Perm.refl _, by
      rcases h5 with ⟨h1, rfl⟩ | ⟨h1, h2⟩
      · simp [floorC, h1, canonN, floorN, write_nonnan (integral_nonnan h1 .down)]
      · simp [floorC, h1, canonN, h2], rfl⟩
def nearN (n : Int) : Nat := FloatKind.f64.nearest n
def ofN (n : Int) : Nat := if n < -9007199254740992 ∨ 9007199254740992 < n then 0 else nearN n
def ofE (n : Int) : Int := if n < -9007199254740992 ∨ 9007199254740992 < n then 4 else 0
theorem of_test {n : Int} (h : -9223372036854775808 ≤ n ∧ n ≤ 9223372036854775807) :
    ((decide (9007199254740992 < if IntKind.i64.wrap (0 - n) > n then IntKind.i64.wrap (0 - n) else n)) || ((n == IntKind.i64.wrap (0 - n)) && (n != 0))) = decide (n < -9007199254740992 ∨ 9007199254740992 < n) := by
  by_cases hm : n = -9223372036854775808
  · subst hm; decide
  · rw [w64 (by omega)]
    by_cases h0 : n = 0 - n
    · have : n = 0 := by omega
      subst this; decide
    · have h1 : (n == 0 - n) = false := by simpa using h0
      rw [h1, Bool.false_and, Bool.or_false, decide_eq_decide]
      split <;> omega
theorem ofInt_ok (n : Int) (h : -9223372036854775808 ≤ n ∧ n ≤ 9223372036854775807) : Fn Tryz.prog 127 [.c (.int .i64 n)] (.tup [.c (.int .u64 (ofN n : Int)), .c (.int .i64 (ofE n))]) := by
  refine AC.of_J Tryz.func127 rfl Tryz.ntmps127 rfl fun w0 A0 => ?_
  refine Zs (Zq rfl (QW.assign .const) (Zq rfl (QW.assign .const) (Zn (J.seq (Zs (Zq rfl (QW.move (.tmp rfl)) (Zq rfl (QW.move (.tmp rfl)) (Zq rfl (QW.neg (.tmp rfl) rfl) (Zq rfl (QW.max2 (.tmp rfl) (.tmp rfl)) ?_)))))))))
  refine Zq rfl (QW.gtr (.tmp rfl) .const) (Zq rfl (QW.move (.tmp rfl)) (Zg rfl (fun hg => (QW.move (.tmp rfl))) (Zg rfl (fun hg => (QW.move (.tmp rfl))) (Zg rfl (fun hg => QW.neg (.when rfl hg) rfl) (Zg rfl (fun hg => (QW.eql (.when rfl hg) (.when rfl hg))) (Zg rfl (fun hg => (QW.move (.when rfl hg))) (JL.gg rfl rfl rfl rfl rfl (fun hg => (QW.move (.tmp rfl))) (JL.gg rfl rfl rfl rfl rfl (fun hg => (QW.neq (.when rfl hg) .const)) (Zg rfl (fun hg => (QW.pick_and2 hg (.when rfl hg) (.tmp rfl))) ?_)))))))))
  refine Zq rfl (QW.pick_or (.tmp rfl) (.tmp rfl)) (Zn ?_)
  refine J.cond (.tmp rfl) (fun c1 => ?_) (fun c1 => ?_)
  ·
    rw [of_test h] at c1; simp at c1
    refine Zs (Zq rfl (QW.assign .const) (Zq rfl (QW.assign .const) (Zn (J.ret (thenQ.r ?_)))))
    exact ⟨_, [], _, RetEv.two rfl (REv.tmp rfl lr) (REv.tmp rfl lr), rfl, List.Perm.refl _, by simp [ofN, ofE, c1], rfl⟩
  ·
    rw [of_test h] at c1; simp at c1
    refine Zk (Zs (Zq rfl (QW.move (.tmp rfl)) (Zq rfl (QW.conv_if us3 fl150 (.tmp rfl)) (Zq rfl (QW.ext (extBits _) (.tmp rfl)) (Zq rfl (QW.assign (.tmp rfl)) (Zq rfl (QW.assign .const) (Zn (J.ret ?_))))))))
    exact ⟨_, [], _, RetEv.two rfl (REv.tmp rfl lr) (REv.tmp rfl lr), rfl, List.Perm.refl _, by rw [ofN, ofE, if_neg (by omega), if_neg (by omega)]; rfl, rfl⟩
end Go.Proofs.YtmccnmahegbmpaaGreat.J

/- Walks: the whole number that a number is. -/
namespace Go.Proofs.YtmccnmahegbmpaaGreat.J
open Go Go.RowKit
set_option maxRecDepth 10000
set_option maxHeartbeats 4000000
theorem findTrunc : Extern.find Tryz.f153 = some (Extern.MathFloor.toIntegral "math.archTrunc" .zero) := by kernel_rfl
theorem extTrunc (b : Nat) (w : World) : (callFunc 153 #[flt b]).run Tryz.prog w = ((Extern.MathFloor.toIntegral "math.archTrunc" .zero #[flt b]).run Tryz.prog w).andThen fun v w => .ok (.value v) w :=
  callFunc_ext Tryz.func153 (by kernel_rfl) (by kernel_rfl) (by kernel_rfl) findTrunc _ _
theorem class_nonnan {b : Nat} (h : ¬ 4 ≤ classN b) : isNan b = false := by
  rw [class_ge] at h
  rw [isNan_eq]; exact decide_eq_false (by omega)
theorem abs_most {b : Nat} (hn : isNan b = false) : (ford (b % 2 ^ 63) 4845873199050653696 == some .gt) = decide (mostR < rung b) := by
  rw [ford_gt (by rw [isNan_abs]; exact hn) (by decide), sr_abs, show sr 4845873199050653696 = 4845873199050653696 by decide, decide_eq_decide]
  unfold mostR; omega
theorem mtrunc_ok (b : Nat) (hn : isNan b = false) : Fn Tryz.prog 145 [.c (flt b)] (.c (flt (truncN b))) := by
  refine AC.of_J Tryz.func145 rfl Tryz.ntmps145 rfl fun w0 A0 => ?_
  refine Zs (Zq rfl (QW.assign .const) (Zn (J.seq ?_)))
  refine J.cond .const (fun c1 => ?_) (fun c1 => absurd c1 (by decide))
  refine Zs (Zq rfl (QW.move (.tmp rfl)) (JL.arch extTrunc (.tmp rfl) rfl fun x4 h4 => ?_))
  obtain rfl : x4 = truncN b := by rcases h4 with ⟨_, h⟩ | ⟨h, _⟩; exact h; rw [hn] at h; cases h
  refine Zq rfl (QW.assign (.tmp rfl)) (Zn (J.ret (thenQ.r ?_)))
  exact ⟨_, [], _, RetEv.one rfl (REv.tmp rfl lr), rfl, List.Perm.refl _, rfl, rfl⟩
theorem int_ok (b : Nat) (hb : b < 2 ^ 64) : Fn Tryz.prog 125 [.c (.int .u64 (b : Int))] (.tup [.c (.int .i64 (intV b)), .c (.int .i64 (intE b))]) := by
  refine AC.of_J Tryz.func125 rfl Tryz.ntmps125 rfl fun w0 A0 => ?_
  refine Zs (Zq rfl (QW.assign .const) (Zq rfl (QW.assign .const) (Zn (Zs (Zq rfl (QW.move (.tmp rfl)) (Zq rfl (QW.ext (extFrom _) (.tmp rfl)) (Zq rfl (QW.assign (.tmp rfl)) (Zn (J.seq ?_)))))))))
  refine J.block (Zs (Zq rfl (QW.move (.tmp rfl)) (Zq rfl (QW.call gofn144 (.cons (.tmp rfl) .nil) (by (apply class_ok <;> first | assumption | omega))) ?_)))
  refine Zq rfl (QW.geq (.tmp rfl) .const) (Zq rfl (QW.move (.tmp rfl)) (Zg rfl (fun hg => (QW.move (.tmp rfl))) (Zg rfl (fun hg => (QW.move (.tmp rfl))) (Zg rfl (fun hg => QW.call gofn145 (.cons (.when rfl hg) .nil) (mtrunc_ok b (class_nonnan (by simp at hg; omega)))) ?_))))
  refine Zg rfl (fun hg => (QW.neq_f (.when rfl hg) (.when rfl hg))) (Zq rfl (QW.pick_or (.tmp rfl) (.tmp rfl)) (Zq rfl (QW.assign (.tmp rfl)) (Zn ?_)))
  refine J.cond (.tmp rfl) (fun c1 => ?_) (fun c1 => ?_)
  ·
    have hT : infR ≤ rung b ∨ ¬ isWhole b := by
      by_cases hf : rung b < infR
      · rw [trunc_whole hb hf] at c1
        have := class_fin.2 hf
        simp at c1
        rcases c1 with h | h
        · omega
        · exact .inr h
      · exact .inl (by omega)
    refine Zs (Zq rfl (QW.assign .const) (Zq rfl (QW.assign .const) (Zn (J.ret (blkQ.r (thenQ.r ?_))))))
    exact ⟨_, [], _, RetEv.two rfl (REv.tmp rfl lr) (REv.tmp rfl lr), rfl, List.Perm.refl _, by rw [(int_t hT).1, (int_t hT).2], rfl⟩
  ·
    have hc : ¬ 4 ≤ classN b := by intro h; rw [decide_eq_true (by omega), Bool.true_or] at c1; cases c1
    have hf : rung b < infR := by rw [class_ge] at hc; omega
    have hn := class_nonnan hc
    have hw : isWhole b := by
      rw [trunc_whole hb hf] at c1
      simp at c1
      exact c1.2
    refine Zs (Zq rfl (QW.move (.tmp rfl)) (Zq rfl (QW.call gofn146 (.cons (.tmp rfl) .nil) (by (apply abs_ok <;> first | assumption | omega))) ?_))
    refine Zq rfl (QW.gtr_f (.tmp rfl) .const) (Zq rfl (QW.assign (.tmp rfl)) (Zn ?_))
    refine J.cond (.tmp rfl) (fun c2 => ?_) (fun c2 => ?_)
    ·
      rw [abs_most hn] at c2; simp at c2
      refine Zs (Zq rfl (QW.assign .const) (Zq rfl (QW.assign .const) (Zn (J.ret (blkQ.r (thenQ.r ?_))))))
      exact ⟨_, [], _, RetEv.two rfl (REv.tmp rfl lr) (REv.tmp rfl lr), rfl, List.Perm.refl _, by rw [(int_r hf hw c2).1, (int_r hf hw c2).2], rfl⟩
    ·
      rw [abs_most hn] at c2; simp at c2
      have hK := sv_fits (s := sgn b) (small_whole c2)
      refine J.skip (blkQ.n (thenQ.n (Zs (Zq rfl (QW.move (.tmp rfl)) (Zq rfl (QW.conv_fi us150 iu3 (.tmp rfl) (trunc_int hf) hK) (Zq rfl (QW.assign (.tmp rfl)) (Zq rfl (QW.assign .const) (Zn (J.ret ?_)))))))))
      exact ⟨_, [], _, RetEv.two rfl (REv.tmp rfl lr) (REv.tmp rfl lr), rfl, List.Perm.refl _, by rw [(int_o hf hw c2).1, (int_o hf hw c2).2], rfl⟩
end Go.Proofs.YtmccnmahegbmpaaGreat.J

/- What expressions come to, as plain data. -/
namespace Go.Proofs.YtmccnmahegbmpaaGreat.J
open Go Go.RowKit
def V.tr (b : Bool) : V := .mk 1 (if b then 1 else 0) [] [] []
def V.nu (b : Nat) : V := .mk 2 b [] [] []
def V.tx (t : Str) : V := .mk 3 0 t [] []
def V.li (l : List V) : V := .mk 4 0 [] [] l
structure ScT where
  st : V
  ev : V
  it : V
def natD (n : Nat) : Str := if n < 10 then [UInt8.ofNat (48 + n)] else natD (n / 10) ++ [UInt8.ofNat (48 + n % 10)]
termination_by n
decreasing_by omega
def intD (n : Int) : Str := if n < 0 then 45 :: natD n.natAbs else natD n.natAbs
def arO (o : Int) (a b : Nat) : Nat := if o = 11 then arithN .add a b else if o = 12 then arithN .sub a b else if o = 13 then arithN .mul a b else arithN .quo a b
def madeE (v : V) : Except Int V := if v.err = 0 then .ok v else .error 84
def getE (v : V) (s : StT) : Except Int V := if (v.getv [s]).2 = 0 then .ok (v.getv [s]).1 else .error (v.getv [s]).2
def setE (v : V) (s : StT) (x : V) : Except Int V := if (v.setv [s] x).2 = 0 then .ok (v.setv [s] x).1 else .error 84
def oneE (o : Int) (t : Str) (a : V) : Except Int V :=
  if o = 8 then getE a ⟨true, t, 0⟩
  else if o = 10 then (if a.kind < 3 then .error 81 else .ok (.nu (ofN ((a.text.length : Int) + (a.items.length : Int)))))
  else if o = 15 then (if a.kind = 2 then .ok (.nu (floorC a.bits)) else .error 81)
  else if o = 20 then (if a.kind = 1 then .ok (.tr (a.bits == 0)) else .error 81)
  else if a.kind ≠ 2 then .error 81 else if intE a.bits ≠ 0 then .error 7 else .ok (.tx (intD (intV a.bits)))
def twoE (o : Int) (t : Str) (a b : V) : Except Int V :=
  if o = 9 then (if a.kind ≠ 4 ∨ b.kind ≠ 2 then .error 81 else if intE b.bits ≠ 0 then .error 82 else getE a ⟨false, [], intV b.bits⟩)
  else if o = 16 then .ok (.tr (a.ord b == 0))
  else if o = 17 then (if b.kind = a.kind then .ok (.tr (decide (a.ord b < 0))) else .error 81)
  else if o = 22 then (if a.kind ≠ 3 ∨ b.kind ≠ 3 then .error 81 else if 128 < a.text.length + b.text.length then .error 84 else .ok (.tx (a.text ++ b.text)))
  else if o = 24 then (if a.kind ≠ 4 then .error 81 else setE a ⟨false, [], a.items.length⟩ b)
  else if o = 25 then (if a.kind ≠ 5 then .error 81 else setE a ⟨true, t, 0⟩ b)
  else if a.kind ≠ 2 ∨ b.kind ≠ 2 then .error 81 else .ok (.nu (arO o a.bits b.bits))
def plainE (o : Int) (t : Str) (l : List V) : Except Int V :=
  if o = 23 then madeE (.li l) else
  match l with
  | [a] => oneE o t a
  | [a, b] => twoE o t a b
  | _ => .error 0
abbrev ER (α : Type) := Except Int (α × Int)
def truE (r : ER V) : ER Bool := match r with
  | .error e => .error e
  | .ok (v, f) => if v.kind = 1 then .ok (v.bits == 1, f) else .error 81
def mapE (g : V → Int → ER V) : List V → Int → ER (List V)
  | [], f => .ok ([], f)
  | x :: r, f => match g x f with
    | .error e => .error e
    | .ok (y, f1) => match mapE g r f1 with
      | .error e => .error e
      | .ok (l, f2) => .ok (y :: l, f2)
def filE (g : V → Int → ER Bool) : List V → Int → ER (List V)
  | [], f => .ok ([], f)
  | x :: r, f => match g x f with
    | .error e => .error e
    | .ok (b, f1) => match filE g r f1 with
      | .error e => .error e
      | .ok (l, f2) => .ok (if b then x :: l else l, f2)
def fndE (g : V → Int → ER Bool) : List V → Int → ER V
  | [], f => .error 71
  | x :: r, f => match g x f with
    | .error e => .error e
    | .ok (b, f1) => if b then .ok (x, f1) else fndE g r f1
def madeF (r : ER (List V)) : ER V := match r with
  | .error e => .error e
  | .ok (l, f) => match madeE (.li l) with
    | .error e => .error e
    | .ok v => .ok (v, f)
def overE (o : Int) (g : V → Int → ER V) (r : ER V) : ER V := match r with
  | .error e => .error e
  | .ok (v, f) => if v.kind ≠ 4 then .error 81
    else if o = 27 then madeF (mapE g v.items f)
    else if o = 28 then madeF (filE (fun x f => truE (g x f)) v.items f)
    else fndE (fun x f => truE (g x f)) v.items f
mutual
/-- An expression's value, and the fuel that is left; or the error. -/
def EX.ev : EX → ScT → Int → ER V
  | .mk o b t l, s, f =>
    if f < 1 then .error 83
    else if o = 0 then .ok (.nil, f - 1)
    else if o = 1 then .ok (.tr false, f - 1)
    else if o = 2 then .ok (.tr true, f - 1)
    else if o = 3 then .ok (.nu b, f - 1)
    else if o = 4 then .ok (.tx t, f - 1)
    else if o = 5 then .ok (s.st, f - 1)
    else if o = 6 then .ok (s.ev, f - 1)
    else if o = 7 then .ok (s.it, f - 1)
    else if o = 18 then EX.evAO false l s (f - 1)
    else if o = 19 then EX.evAO true l s (f - 1)
    else if o = 21 then EX.evIf l s (f - 1)
    else if o = 27 ∨ o = 28 ∨ o = 29 then EX.evOv o l s (f - 1)
    else match EX.evs l s (f - 1) with
      | .error e => .error e
      | .ok (vs, f1) => match plainE o t vs with
        | .error e => .error e
        | .ok v => .ok (v, f1)
def EX.evs : List EX → ScT → Int → ER (List V)
  | [], s, f => .ok ([], f)
  | x :: r, s, f => match x.ev s f with
    | .error e => .error e
    | .ok (v, f1) => match EX.evs r s f1 with
      | .error e => .error e
      | .ok (vs, f2) => .ok (v :: vs, f2)
def EX.evAO (k : Bool) : List EX → ScT → Int → ER V
  | x :: y :: _, s, f => match truE (x.ev s f) with
    | .error e => .error e
    | .ok (b1, f1) => if b1 = k then .ok (.tr k, f1) else match truE (y.ev s f1) with
      | .error e => .error e
      | .ok (b2, f2) => .ok (.tr b2, f2)
  | _, _, _ => .error 0
def EX.evIf : List EX → ScT → Int → ER V
  | x :: y :: z :: _, s, f => match truE (x.ev s f) with
    | .error e => .error e
    | .ok (b1, f1) => if b1 then y.ev s f1 else z.ev s f1
  | _, _, _ => .error 0
def EX.evOv (o : Int) : List EX → ScT → Int → ER V
  | x :: y :: _, s, f => overE o (fun it f => y.ev { s with it } f) (x.ev s f)
  | _, _, _ => .error 0
end
def runT (e : EX) (s : ScT) (f : Int) : V × Int × Int := match e.ev s f with
  | .error c => (.nil, 0, c)
  | .ok (v, f1) => (v, f1, 0)
end Go.Proofs.YtmccnmahegbmpaaGreat.J

/- Walks: whole numbers compared; lists of them. -/
namespace Go.Proofs.YtmccnmahegbmpaaGreat.J
open Go Go.RowKit
set_option maxRecDepth 10000
set_option maxHeartbeats 4000000
def eI64 : ETy := ⟨1, 8⟩
def intsAV (l : List Int) : List (List AV) := l.map fun n => [.c (.int .i64 n)]
theorem intsAV_length (l : List Int) : (intsAV l).length = l.length := by simp [intsAV]
theorem intsAV_getE {l : List Int} {i : Nat} (h : i < l.length) : (intsAV l)[i]? = some [.c (.int .i64 l[i])] := by simp [intsAV, h]
theorem fdiv2 {lo hi : Nat} : ((lo : Int) + (hi : Int)).fdiv (2 ^ (min (1 : Int).toNat IntKind.u64.bits)) = (((lo + hi) / 2 : Nat) : Int) := by
  rw [show (2 : Int) ^ (min (1 : Int).toNat IntKind.u64.bits) = 2 from rfl, Int.fdiv_eq_ediv_of_nonneg _ (by decide)]
  omega
theorem nanInt_ok (n : Int) : Fn Tryz.prog 150 [.c (.int .i64 n)] (.c (.bool false)) := by
  refine AC.of_J Tryz.func150 rfl Tryz.ntmps150 rfl fun w0 A0 => ?_
  exact Zs (Zq rfl (QW.assign .const) (Zn (Zs (Zq rfl (QW.move (.tmp rfl)) (Zq rfl (QW.move (.tmp rfl)) (Zq rfl (QW.neq (.tmp rfl) (.tmp rfl)) (Zq rfl (QW.assign (.tmp rfl)) (Zn (J.ret (Zr [] (RetEv.one rfl (REv.tmp rfl lr)) rfl ⟨ret_b (by simp), rfl⟩))))))))))
theorem cmpInt_ok (a b : Int) : Fn Tryz.prog 137 [.c (.int .i64 a), .c (.int .i64 b)] (.c (.int .i64 (if a < b then -1 else if b < a then 1 else 0))) := by
  refine AC.of_J Tryz.func137 rfl Tryz.ntmps137 rfl fun w0 A0 => ?_
  refine Zs (Zq rfl (QW.assign .const) (Zn (Zs (Zq rfl (QW.move (.tmp rfl)) (Zq rfl (QW.call gofn150 (.cons (.tmp rfl) .nil) (nanInt_ok _)) (Zq rfl (QW.assign (.tmp rfl)) (Zn (Zs (Zq rfl (QW.move (.tmp rfl)) ?_)))))))))
  refine Zq rfl (QW.call gofn150 (.cons (.tmp rfl) .nil) (nanInt_ok _)) (Zq rfl (QW.assign (.tmp rfl)) (Zn (J.seq (Zs (Zq rfl (QW.move (.tmp rfl)) (Zn ?_))))))
  refine J.cond (.tmp rfl) (fun c1 => absurd c1 (by simp)) (fun c1 => ?_)
  refine Zk (J.seq (Zs (Zq rfl (QW.move (.tmp rfl)) (Zn ?_))))
  refine J.cond (.tmp rfl) (fun c2 => absurd c2 (by simp)) (fun c2 => ?_)
  refine Zk (J.seq (Zs (Zq rfl (QW.move (.tmp rfl)) (Zq rfl (QW.move (.tmp rfl)) (Zq rfl (QW.lss (.tmp rfl) (.tmp rfl)) (Zn ?_))))))
  refine J.cond (.tmp rfl) (fun c3 => ?_) (fun c3 => ?_)
  · skip
    simp at c3
    exact Zs (Zq rfl (QW.assign .const) (Zn (J.ret (thenQ.r (Zr [] (RetEv.one rfl (REv.tmp rfl lr)) rfl ⟨by rw [if_pos c3], rfl⟩)))))
  simp at c3
  refine Zk (J.seq (Zs (Zq rfl (QW.move (.tmp rfl)) (Zq rfl (QW.move (.tmp rfl)) (Zq rfl (QW.gtr (.tmp rfl) (.tmp rfl)) (Zn ?_))))))
  refine J.cond (.tmp rfl) (fun c4 => ?_) (fun c4 => ?_)
  · skip
    simp at c4
    exact Zs (Zq rfl (QW.assign .const) (Zn (J.ret (thenQ.r (Zr [] (RetEv.one rfl (REv.tmp rfl lr)) rfl ⟨by rw [if_neg (by omega), if_pos (by omega)], rfl⟩)))))
  simp at c4
  exact Zk (Zs (Zq rfl (QW.assign .const) (Zn (J.ret (Zr [] (RetEv.one rfl (REv.tmp rfl lr)) rfl ⟨by rw [if_neg (by omega), if_neg (by omega)], rfl⟩)))))
end Go.Proofs.YtmccnmahegbmpaaGreat.J

/- Walks: steps into values: what is found, what is got. -/
namespace Go.Proofs.YtmccnmahegbmpaaGreat.J
open Go Go.RowKit
set_option maxRecDepth 10000
set_option maxHeartbeats 4000000
theorem nanStr_ok (s : Str) : Fn Tryz.prog 61 [.c (str s)] (.c (.bool false)) := by
  refine AC.of_J Tryz.func61 rfl Tryz.ntmps61 rfl fun w0 A0 => ?_
  exact Zs (Zq rfl (QW.assign .const) (Zn (Zs (Zq rfl (QW.move (.tmp rfl)) (Zq rfl (QW.move (.tmp rfl)) (Zq rfl (QW.neq_s (.tmp rfl) (.tmp rfl)) (Zq rfl (QW.assign (.tmp rfl)) (Zn (J.ret (Zr [] (RetEv.one rfl (REv.tmp rfl lr)) rfl ⟨ret_b (by simp), rfl⟩))))))))))
theorem cnanStr_ok (s : Str) : Fn Tryz.prog 72 [.c (str s)] (.c (.bool false)) := by
  refine AC.of_J Tryz.func72 rfl Tryz.ntmps72 rfl fun w0 A0 => ?_
  exact Zs (Zq rfl (QW.assign .const) (Zn (Zs (Zq rfl (QW.move (.tmp rfl)) (Zq rfl (QW.move (.tmp rfl)) (Zq rfl (QW.neq_s (.tmp rfl) (.tmp rfl)) (Zq rfl (QW.assign (.tmp rfl)) (Zn (J.ret (Zr [] (RetEv.one rfl (REv.tmp rfl lr)) rfl ⟨ret_b (by simp), rfl⟩))))))))))
theorem lessStr_ok (a b : Str) : Fn Tryz.prog 60 [.c (str a), .c (str b)] (.c (.bool (Op.bytesLess a b))) := by
  refine AC.of_J Tryz.func60 rfl Tryz.ntmps60 rfl fun w0 A0 => ?_
  refine Zs (Zq rfl (QW.assign .const) (Zn (Zs (Zq rfl (QW.move (.tmp rfl)) (Zq rfl (QW.call gofn72 (.cons (.tmp rfl) .nil) (cnanStr_ok _)) (Zq rfl (QW.move (.tmp rfl)) (Zg rfl (fun hg => (QW.move (.tmp rfl))) (Zg rfl (fun hg => (QW.call gofn72 (.cons (.when rfl hg) .nil) (cnanStr_ok _))) (Zg rfl (fun hg => (QW.not (.when rfl hg))) ?_)))))))))
  exact Zq rfl (QW.pick_and (.tmp rfl) (.tmp rfl)) (Zq rfl (QW.move (.tmp rfl)) (Zg rfl (fun hg => (QW.move (.tmp rfl))) (Zg rfl (fun hg => (QW.move (.tmp rfl))) (Zg rfl (fun hg => (QW.lss_s (.when rfl hg) (.when rfl hg))) (Zq rfl (QW.pick_or (.tmp rfl) (.tmp rfl)) (Zq rfl (QW.assign (.tmp rfl)) (Zn (J.ret (Zr [] (RetEv.one rfl (REv.tmp rfl lr)) rfl ⟨ret_b (by simp), rfl⟩)))))))))
theorem foundStr {l : List Str} {k : Nat} {s : Str} : (decide (l[k]? = some s)) = (decide ((k : Int) < (l.length : Int)) && ((l.getD k []) == s || false && false)) := by
  by_cases hk : k < l.length
  · rw [Bool.eq_iff_iff]; simp [hk, List.getD]
  · rw [Bool.eq_iff_iff]; simp [hk]
theorem bs_ok {fr c : Bool} {l : List Str} {s : Str} {k : Nat} (hl : l.length ≤ 1000) (hk : k ≤ l.length) (h1 : ∀ i (h : i < l.length), i < k → Op.bytesLess l[i] s = true) (h2 : ∀ i (h : i < l.length), k ≤ i → Op.bytesLess l[i] s = false) : Fn Tryz.prog 45 [.sl fr c eStr (keysAV l), .c (str s)] (.tup [.c (.int .i64 (k : Int)), .c (.bool (decide (l[k]? = some s)))]) := by
  refine AC.of_J Tryz.func45 rfl Tryz.ntmps45 rfl fun w0 A0 => ?_
  refine Zs (Zq rfl (QW.assign .const) (Zq rfl (QW.assign .const) (Zn (Zs (Zq rfl (QW.move (.tmp rfl)) (Zq rfl (QW.len_slE sl23 (.tmp rfl) (keysAV_length _)) (Zq rfl (QW.assign (.tmp rfl)) (Zn (Zs ?_)))))))))
  refine Zq rfl (QW.move (.tmp rfl)) (Zq rfl (QW.assign .const) (Zq rfl (QW.assign (.tmp rfl)) (Zn (J.seq (J.block (J.loopK (ι := Nat × Nat) [0, 1, 4, 5, 6] (fun ⟨lo, hi⟩ => [(7, .c (.int .i64 (lo : Int))), (8, .c (.int .i64 (hi : Int)))]) (fun _ oo => oo) (fun ⟨lo, hi⟩ => lo ≤ k ∧ k ≤ hi ∧ hi ≤ l.length) (fun ⟨lo, hi⟩ => hi - lo) ⟨0, l.length⟩ (⟨Nat.zero_le _, hk, Nat.le_refl _⟩) (Wk.re (.cons rfl lr (.cons rfl lr (.cons rfl lr (.cons rfl lr (.cons rfl lr (.cons rfl lr (.cons rfl lr .nil))))))) (Reown.refl _) (fun _ h => by first | exact h | simp [h])) ?_))))))
  intro ⟨lo, hi⟩ ⟨ha, hb, hc⟩
  refine J.conv (by (try simp only [nl, stepsO, valO, nthO, curO, mrg, AV.cellsOf, splice_zero, splice_succ, Nat.reduceAdd]); rfl) ?_
  refine J.seq (Zs (Zq rfl (QW.move (.tmp rfl)) (Zq rfl (QW.move (.tmp rfl)) (Zq rfl (QW.lss (.tmp rfl) (.tmp rfl)) (Zn ?_)))))
  refine J.cond (.tmp rfl) (fun c1 => ?_) (fun c1 => ?_)
  · skip
    have hlt : lo < hi := by simpa using c1
    refine Zk (J.block (Zs (Zq rfl (QW.move (.tmp rfl)) (Zq rfl (QW.move (.tmp rfl)) (Zq rfl (QW.add (.tmp rfl) (.tmp rfl) (w64n rfl (by omega))) (Zq rfl (QW.conv_int us3 iu125 (.tmp rfl) (wu64 (by omega))) (Zq rfl (QW.shr (.tmp rfl) .const (by decide) fdiv2) ?_)))))))
    refine Zq rfl (QW.conv_int us125 iu3 (.tmp rfl) (w64n rfl (by omega))) (Zq rfl (QW.assign (.tmp rfl)) (Zn (Zs (Zq rfl (QW.move (.tmp rfl)) (Zq rfl (QW.move (.tmp rfl)) (Zq rfl (QW.index_sl sl23 ty9 rfl (.tmp rfl) (.tmp rfl) rfl (by exact keysAV_getE (ks := l) (i := (lo + hi) / 2) (by omega))) ?_))))))
    refine Zq rfl (QW.load_ref1 ty9 (.tmp rfl) rfl) (Zq rfl (QW.move (.tmp rfl)) (Zq rfl (QW.call gofn60 (.cons (.tmp rfl) (.cons (.tmp rfl) .nil)) (lessStr_ok _ _)) (Zn ?_)))
    refine J.cond (.tmp rfl) (fun c2 => ?_) (fun c2 => ?_)
    · skip
      have hm : Op.bytesLess (l[(lo + hi) / 2]'(by omega)) s = true := c2
      refine J.region_lit (Zq rfl (QW.move (.tmp rfl)) (Zq rfl (QW.add (.tmp rfl) .const (w64 (by omega))) (Zq rfl (QW.assign (.tmp rfl)) (JL.nil (blkQ.n (thenQ.n ?_))))))
      exact ⟨⟨(lo + hi) / 2 + 1, hi⟩, ⟨Nat.lt_of_not_le fun h => absurd (h2 _ (by omega) h) (by rw [hm]; decide), hb, hc⟩, by show hi - ((lo + hi) / 2 + 1) < hi - lo; omega, Wk.re (.cons rfl lr (.cons rfl lr (.cons rfl lr (.cons rfl lr (.cons rfl lr (.cons rfl lr (.cons rfl lr .nil))))))) (Reown.refl _) (fun _ h => by first | exact h | simp [h])⟩
    have hm : Op.bytesLess (l[(lo + hi) / 2]'(by omega)) s = false := c2
    refine J.region_lit (Zq rfl (QW.move (.tmp rfl)) (Zq rfl (QW.assign (.tmp rfl)) (JL.nil (blkQ.n (thenQ.n ?_)))))
    exact ⟨⟨lo, (lo + hi) / 2⟩, ⟨ha, Nat.le_of_not_lt fun h => absurd (h1 _ (by omega) h) (by rw [hm]; decide), by omega⟩, by show (lo + hi) / 2 - lo < hi - lo; omega, Wk.re (.cons rfl lr (.cons rfl lr (.cons rfl lr (.cons rfl lr (.cons rfl lr (.cons rfl lr (.cons rfl lr .nil))))))) (Reown.refl _) (fun _ h => by first | exact h | simp [h])⟩
  have hge : hi ≤ lo := by simpa using c1
  refine J.exit (thenQ.x (thenQ.x (blkQ.hit (thenQ.n (Zs (Zq rfl (QW.move (.tmp rfl)) (Zq rfl (QW.move (.tmp rfl)) (Zq rfl (QW.move (.tmp rfl)) (Zq rfl (QW.lss (.tmp rfl) (.tmp rfl)) ?_)))))))))
  refine Zq rfl (QW.move (.tmp rfl)) (Zg rfl (fun hg => (QW.move (.tmp rfl))) (Zg rfl (fun hg => (QW.move (.tmp rfl))) (Zg rfl (fun hg => (QW.index_sl sl23 ty9 rfl (.when rfl hg) (.when rfl hg) rfl (by exact keysAV_getD (by simp at hg; omega)))) ?_)))
  refine Zg rfl (fun hg => (QW.load_ref1 ty9 (.when rfl hg) rfl)) (Zg rfl (fun hg => (QW.move (.tmp rfl))) (Zg rfl (fun hg => (QW.eql_s (.when rfl hg) (.when rfl hg))) (Zg rfl (fun hg => (QW.move (.when rfl hg))) (JL.gg rfl rfl rfl rfl rfl (fun hg => (QW.move (.tmp rfl))) (JL.gg rfl rfl rfl rfl rfl (fun hg => (QW.move (.tmp rfl))) (JL.gg rfl rfl rfl rfl rfl (fun hg => (QW.index_sl sl23 ty9 rfl (.when rfl hg) (.when rfl hg) rfl (by exact keysAV_getD (by simp at hg; omega)))) ?_))))))
  refine JL.gg rfl rfl rfl rfl rfl (fun hg => (QW.load_ref1 ty9 (.when rfl hg) rfl)) (JL.gg rfl rfl rfl rfl rfl (fun hg => (QW.call gofn61 (.cons (.when rfl hg) .nil) (nanStr_ok _))) (JL.gg rfl rfl rfl rfl rfl (fun hg => (QW.move (.when rfl hg))) (JL.gg rfl rfl rfl rfl rfl (fun hg => (QW.move (.tmp rfl))) (JL.gg rfl rfl rfl rfl rfl (fun hg => (QW.call gofn61 (.cons (.when rfl hg) .nil) (nanStr_ok _))) (JL.gg rfl rfl rfl rfl rfl (fun hg => (QW.pick_and2 hg (.when rfl hg) (.tmp rfl))) (Zg rfl (fun hg => (QW.pick_or2 hg (.when rfl hg) (.tmp rfl))) (Zq rfl (QW.pick_and (.tmp rfl) (.tmp rfl)) (Zq rfl (QW.assign (.tmp rfl)) (Zq rfl (QW.assign (.tmp rfl)) ?_)))))))))
  refine Zn (J.ret ?_)
  obtain rfl : lo = k := by omega
  exact Zr [] (RetEv.two rfl (REv.tmp rfl lr) (REv.tmp rfl lr)) rfl ⟨by rw [foundStr], rfl⟩
def fndAV (v : V) (s : StT) : AV := .tup [.c (.int .i64 ((v.fnd s).1 : Int)), .c (.int .i64 (v.fnd s).2)]
theorem fndAV_of {v : V} {s : StT} {i : Nat} {e : Int} (h : v.fnd s = (i, e)) : fndAV v s = .tup [.c (.int .i64 (i : Int)), .c (.int .i64 e)] := by rw [fndAV, h]
theorem find_ok {fr : Bool} {v : V} {s : StT} {ys zs : List AV} (hv : Vc fr v ys) (hs : Sc s zs) (hp : partOk v = true) (hsw : s.wf) : Fn Tryz.prog 29 [.agg ys, .agg zs] (fndAV v s) := by
  obtain ⟨k, b, t, ks, is⟩ := v
  subst hv
  obtain ⟨sk, key, ix⟩ := s
  subst hs
  obtain ⟨l1, l2⟩ := partOk_len hp
  have hsi := hsw.i
  simp only [V.items, V.keys] at l1 l2 hsi
  refine AC.of_J Tryz.func29 rfl Tryz.ntmps29 rfl fun w0 A0 => ?_
  refine Zs (JL.box_agg (.tmp rfl) rfl fun b2 => JL.box_agg (.tmp rfl) rfl fun b3 => Zq rfl (QW.assign .const) (Zq rfl (QW.assign .const) (Zn (J.seq (J.block (J.seq (Zs ?_)))))))
  refine Zq rfl (QW.field_ptr fo66_0 (.tmp rfl) rfl) (Zq rfl (QW.load_box1 0 ty4 (.tmp rfl) rfl rfl) (Zq rfl (QW.move (.tmp rfl)) (Zg rfl (fun hg => (QW.field_ptr fo26_0 (.tmp rfl) rfl)) (Zg rfl (fun hg => (QW.load_box1 1 ty3 (.when rfl hg) rfl rfl)) (Zg rfl (fun hg => (QW.neq (.when rfl hg) .const)) (Zq rfl (QW.pick_and (.tmp rfl) (.tmp rfl)) (Zq rfl (QW.assign (.tmp rfl)) (Zn ?_))))))))
  refine J.cond (.tmp rfl) (fun c1 => ?_) (fun c1 => ?_)
  · skip
    skip
    refine Zk ?_
    refine J.cond (.tmp rfl) (fun c2 => ?_) (fun c2 => absurd c2 (by rw [c1]; decide))
    exact Zs (Zq rfl (QW.assign .const) (Zq rfl (QW.assign .const) (Zn (J.ret (blkQ.r (thenQ.r (Zr [.k, .k] (RetEv.two rfl (REv.tmp rfl lr) (REv.tmp rfl lr)) rfl ⟨congrArg Res.ret (fndAV_of (i := 0) (e := 81) (by simp at c1; obtain ⟨rfl, h5⟩ := c1; simp [V.fnd, V.kind, h5])).symm, rfl⟩)))))))
  skip
  refine J.region_lit (Zq rfl (QW.field_ptr fo66_0 (.tmp rfl) rfl) (Zq rfl (QW.load_box1 0 ty4 (.tmp rfl) rfl rfl) (Zq rfl (QW.not (.tmp rfl)) (Zq rfl (QW.move (.tmp rfl)) (Zg rfl (fun hg => (QW.field_ptr fo26_0 (.tmp rfl) rfl)) (Zg rfl (fun hg => (QW.load_box1 1 ty3 (.when rfl hg) rfl rfl)) (Zg rfl (fun hg => (QW.neq (.when rfl hg) .const)) (Zq rfl (QW.pick_and (.tmp rfl) (.tmp rfl)) (Zq rfl (QW.assign (.tmp rfl)) ?_)))))))))
  refine Zn ?_
  refine J.cond (.tmp rfl) (fun c2 => ?_) (fun c2 => ?_)
  · skip
    skip
    exact Zs (Zq rfl (QW.assign .const) (Zq rfl (QW.assign .const) (Zn (J.ret (blkQ.r (thenQ.r (Zr [.k, .k] (RetEv.two rfl (REv.tmp rfl lr) (REv.tmp rfl lr)) rfl ⟨congrArg Res.ret (fndAV_of (i := 0) (e := 81) (by simp at c1 c2; obtain ⟨rfl, h5⟩ := c2; simp [V.fnd, V.kind, h5])).symm, rfl⟩)))))))
  skip
  refine Zs (Zq rfl (QW.field_ptr fo66_0 (.tmp rfl) rfl) (Zq rfl (QW.load_box1 0 ty4 (.tmp rfl) rfl rfl) (Zq rfl (QW.assign (.tmp rfl)) (Zn ?_))))
  refine J.cond (.tmp rfl) (fun c3 => ?_) (fun c3 => ?_)
  · skip
    simp at c1 c2
    subst c3
    simp at c1
    subst c1
    have hsrt : Sorted ks := keysOk_sorted (partOk_rec hp rfl).2
    refine Zs (Zq rfl (QW.field_ptr fo26_3 (.tmp rfl) rfl) (Zq rfl (QW.load_box1 1 ty23 (.tmp rfl) rfl rfl) (Zq rfl (QW.field_ptr fo66_1 (.tmp rfl) rfl) (Zq rfl (QW.load_box1 0 ty9 (.tmp rfl) rfl rfl) (Zq rfl (QW.call gofn45 (.cons (.tmp rfl) (.cons (.tmp rfl) .nil)) (bs_ok (k := low ks key) (by omega) (low_le _ _) (fun i h hi => low_lt h hi) (fun i h hi => low_ge hsrt h hi))) (Zq rfl (QW.move (.tmp rfl)) (Zq rfl (QW.extract (.tmp rfl) rfl) (Zq rfl (QW.extract (.tmp rfl) rfl) (Zq rfl (QW.assign (.tmp rfl)) ?_)))))))))
    refine Zq rfl (QW.assign (.tmp rfl)) (Zn (J.seq (Zs (Zq rfl (QW.move (.tmp rfl)) (Zq rfl (QW.not (.tmp rfl)) (Zn ?_))))))
    refine J.cond (.tmp rfl) (fun c4 => ?_) (fun c4 => ?_)
    · skip
      skip
      exact Zs (Zq rfl (QW.move (.tmp rfl)) (Zq rfl (QW.assign (.tmp rfl)) (Zq rfl (QW.assign .const) (Zn (J.ret (thenQ.r (blkQ.r (thenQ.r (Zr [.k, .k] (RetEv.two rfl (REv.tmp rfl lr) (REv.tmp rfl lr)) rfl ⟨congrArg Res.ret (fndAV_of (i := low ks key) (e := 71) (by simp at c4; simp [V.fnd, V.kind, V.keys, c4])).symm, rfl⟩)))))))))
    skip
    exact Zk (Zs (Zq rfl (QW.move (.tmp rfl)) (Zq rfl (QW.assign (.tmp rfl)) (Zq rfl (QW.assign .const) (Zn (J.ret (blkQ.r (thenQ.r (Zr [.k, .k] (RetEv.two rfl (REv.tmp rfl lr) (REv.tmp rfl lr)) rfl ⟨congrArg Res.ret (fndAV_of (i := low ks key) (e := 0) (by simp at c4; simp [V.fnd, V.kind, V.keys, c4])).symm, rfl⟩)))))))))
  simp at c1 c2
  subst c3
  simp at c2
  subst c2
  refine Zs (Zq rfl (QW.field_ptr fo66_2 (.tmp rfl) rfl) (Zq rfl (QW.load_box1 0 ty3 (.tmp rfl) rfl rfl) (Zq rfl (QW.lss (.tmp rfl) .const) (Zq rfl (QW.move (.tmp rfl)) (Zg rfl (fun hg => (QW.field_ptr fo66_2 (.tmp rfl) rfl)) (Zg rfl (fun hg => (QW.load_box1 0 ty3 (.when rfl hg) rfl rfl)) (Zg rfl (fun hg => (QW.field_ptr fo26_4 (.tmp rfl) rfl)) (Zg rfl (fun hg => (QW.load_box1 1 ty24 (.when rfl hg) rfl rfl)) (Zg rfl (fun hg => (QW.len_slE sl24 (.when rfl hg) wl)) ?_)))))))))
  refine Zg rfl (fun hg => (QW.geq (.when rfl hg) (.when rfl hg))) (Zq rfl (QW.pick_or (.tmp rfl) (.tmp rfl)) (Zq rfl (QW.assign (.tmp rfl)) (Zn ?_)))
  refine J.cond (.tmp rfl) (fun c4 => ?_) (fun c4 => ?_)
  · skip
    skip
    exact Zs (Zq rfl (QW.assign .const) (Zq rfl (QW.assign .const) (Zn (J.ret (blkQ.r (thenQ.r (Zr [.k, .k] (RetEv.two rfl (REv.tmp rfl lr) (REv.tmp rfl lr)) rfl ⟨congrArg Res.ret (fndAV_of (i := 0) (e := 82) (by unfold V.fnd; rw [if_neg (by simp), if_pos (show (V.mk 4 b t ks is).kind = 4 from rfl), if_pos (by simpa [V.items] using c4)])).symm, rfl⟩)))))))
  skip
  refine J.skip (blkQ.n (thenQ.n (Zs (Zq rfl (QW.field_ptr fo66_2 (.tmp rfl) rfl) (Zq rfl (QW.load_box1 0 ty3 (.tmp rfl) rfl rfl) (Zq rfl (QW.assign (.tmp rfl)) (Zq rfl (QW.assign .const) (Zn (J.ret ?_)))))))))
  simp at c4
  obtain ⟨m, rfl⟩ := Int.eq_ofNat_of_zero_le (a := ix) (by omega)
  exact Zr [.k, .k] (RetEv.two rfl (REv.tmp rfl lr) (REv.tmp rfl lr)) rfl ⟨congrArg Res.ret (fndAV_of (i := m) (e := 0) (by simp [V.fnd, V.kind, V.items]; omega)).symm, rfl⟩
def getAV (v : V) (p : List StT) : AV := .tup [.agg ((v.getv p).1.cs true), .c (.int .i64 (v.getv p).2)]
theorem getAV_of {v u : V} {p : List StT} {e : Int} (h : v.getv p = (u, e)) : getAV v p = .tup [.agg (u.cs true), .c (.int .i64 e)] := by rw [getAV, h]
theorem V.cs_it (fr : Bool) (u : V) : (u.cs fr)[0 + 4]? = some (.sl fr false eV (V.css fr u.items)) := by cases u; rfl
theorem drop_at {α : Type} {l : List α} {j : Nat} (h : j < l.length) : l.drop j = l[j] :: l.drop (j + 1) := List.drop_eq_getElem_cons h
theorem get_ok {fr fr2 c2 : Bool} {v : V} {p : List StT} {ys : List AV} (hv : Vc fr v ys) (hw : v.wf) (hp : p.length * 32 ≤ reach ∧ ∀ s ∈ p, s.wf) : Fn Tryz.prog 18 [.agg ys, .sl fr2 c2 eSt (StT.css p)] (getAV v p) := by
  obtain ⟨hp80, hpw⟩ := hp
  have hpl : p.length ≤ 4398046511104 := by unfold reach at hp80; omega
  subst hv
  refine AC.of_J Tryz.func18 rfl Tryz.ntmps18 rfl fun w0 A0 => ?_
  refine Zs (JL.box_agg (.tmp rfl) rfl fun b2 => JL.alloc z26 rfl rfl fun b4 => Zq rfl (QW.assign .const) (Zn (J.seq (Zs (Zq rfl (QW.load_box 1 ty26 (.tmp rfl) rfl (take_at vl rfl) vl) (Zq rfl (QW.call gofn16 (.cons (.tmp rfl) .nil) (check_ok Vc.self hw)) (Zq rfl (QW.assign (.tmp rfl)) ?_)))))))
  refine Zn (Zs (Zq rfl (QW.move (.tmp rfl)) (Zq rfl (QW.neq (.tmp rfl) .const) (Zn ?_))))
  refine J.cond (.tmp rfl) (fun c1 => ?_) (fun c1 => ?_)
  · skip
    simp at c1
    exact Zs (Zq rfl (QW.build (idx := []) pl26 z26 rfl .nil rfl rfl rfl rfl) (Zq rfl (QW.move (.tmp rfl)) (JL.store_boxF 0 ty26 (.tmp rfl) rfl (.tmp rfl) rfl rfl rfl rfl (Zq rfl (QW.assign (.tmp rfl)) (Zn (J.ret (thenQ.r (Zr [.k, .k] (RetEv.two rfl (REv.cell 0 ty26 rfl rfl rfl rfl (.aggL (.cons lr (.cons lr (.cons lr (.cons (.nil true false _) (.cons (.nil true false _) .nil))))))) (REv.tmp rfl lr)) rfl ⟨congrArg Res.ret (getAV_of (u := .nil) (e := v.err) (by rw [V.getv, if_pos c1])).symm, rfl⟩))))))))
  simp at c1
  have hfv := V.fine_of c1
  refine Zk (J.seq (Zs (Zq rfl (QW.move (.tmp rfl)) (Zq rfl (QW.len_slE sl67 (.tmp rfl) (StT.css_length _)) (Zq rfl (QW.move .const) (Zn (J.block (J.loopK (ι := Nat × V) [2, 4, 17, 18] (fun ⟨j, u⟩ => [(19, .c (.int .i64 (j : Int)))]) (fun ⟨j, u⟩ oo => List.set oo 1 (.box b2 (u.cs fr))) (fun ⟨j, u⟩ => j ≤ p.length ∧ u.Fine ∧ u.wf ∧ v.walk p = u.walk (p.drop j)) (fun ⟨j, u⟩ => p.length - j) ⟨0, v⟩ (⟨Nat.zero_le _, hfv, hw, rfl⟩) (Wk.re (.cons rfl lr (.cons rfl lr (.cons rfl lr (.cons rfl lr (.cons rfl lr .nil))))) (Reown.refl _) (fun _ h => by first | exact h | simp [h])) ?_))))))))
  intro ⟨j, u⟩ ⟨hj, hf, huw, hwk⟩
  refine J.conv (by (try simp only [nl, stepsO, valO, nthO, curO, mrg, AV.cellsOf, splice_zero, splice_succ, Nat.reduceAdd]); rfl) ?_
  refine Zs (Zq rfl (QW.lss (.tmp rfl) (.tmp rfl)) (Zn (J.seq ?_)))
  refine J.cond (.tmp rfl) (fun c2 => ?_) (fun c2 => ?_)
  · skip
    have hlt : j < p.length := by simpa using c2
    refine Zk (J.seq (J.block (Zs (Zq rfl (QW.index_sl sl67 ty66 rfl (.tmp rfl) (.tmp rfl) rfl (by exact StT.css_getE hlt)) ?_))))
    refine Zq rfl (QW.load_ref ty66 (.tmp rfl) rfl rfl) (JL.alloc z66 rfl rfl fun b8 => JL.store_boxF 0 ty66 (.tmp rfl) rfl (.tmp rfl) rfl rfl rfl rfl (Zn (Zs (Zq rfl (QW.load_box 2 ty26 (.tmp rfl) rfl (take_at vl rfl) vl) (Zq rfl (QW.load_box 0 ty66 (.tmp rfl) rfl rfl rfl) (Zq rfl (QW.call gofn29 (.cons (.tmp rfl) (.cons (.tmp rfl) .nil)) (find_ok Vc.self Sc.self hf.part (hpw _ (List.getElem_mem hlt)))) (Zq rfl (QW.move (.tmp rfl)) (Zq rfl (QW.extract (.tmp rfl) rfl) ?_))))))))
    refine Zq rfl (QW.extract (.tmp rfl) rfl) (Zq rfl (QW.assign (.tmp rfl)) (Zq rfl (QW.assign (.tmp rfl)) (Zn (J.seq (Zs (Zq rfl (QW.move (.tmp rfl)) (Zq rfl (QW.neq (.tmp rfl) .const) (Zn ?_))))))))
    refine J.cond (.tmp rfl) (fun c3 => ?_) (fun c3 => ?_)
    · skip
      simp at c3
      refine Zs (Zq rfl (QW.build (idx := []) pl26 z26 rfl .nil rfl rfl rfl rfl) (Zq rfl (QW.move (.tmp rfl)) (JL.store_boxF 1 ty26 (.tmp rfl) rfl (.tmp rfl) rfl rfl rfl rfl (Zq rfl (QW.assign (.tmp rfl)) (Zn (J.ret (thenQ.r (blkQ.r (thenQ.r ?_)))))))))
      exact thenQ.r (blkQ.r (thenQ.r (Zr [.k, .k, .k] (RetEv.two rfl (REv.cell 1 ty26 rfl rfl rfl rfl (.aggL (.cons lr (.cons lr (.cons lr (.cons (.nil true false _) (.cons (.nil true false _) .nil))))))) (REv.tmp rfl lr)) rfl ⟨congrArg Res.ret (getAV_of (u := .nil) (e := (u.fnd (p[j]'hlt)).2) (by rw [V.getv, if_neg (by simp [c1]), hwk, drop_at hlt, V.walk, if_pos c3])).symm, rfl⟩)))
    simp at c3
    have hil := V.fnd_lt hf.part c3
    have hcn : (if (u.fnd (p[j]'hlt)).2 = 0 then ((u.fnd (p[j]'hlt)).1 : Int) else -1) = ((u.fnd (p[j]'hlt)).1 : Int) := if_pos c3
    refine Zk (J.region_lit (Zq rfl (QW.field_ptr fo26_4 (.tmp rfl) rfl) (Zq rfl (QW.load_box1 2 ty24 (.tmp rfl) rfl (V.cs_it fr u)) (Zq rfl (QW.move (.tmp rfl)) (Zq rfl (QW.index_sl sl24 ty26 rfl (.tmp rfl) (.tmp rfl) rfl (by exact (V.css_getE fr hil).trans (by rw [← V.kid_eq hil]))) ?_)))))
    refine Zq rfl (QW.load_ref ty26 (.tmp rfl) (take_at0 vl rfl) vl) (JL.store_boxF 2 ty26 (.tmp rfl) rfl (.tmp rfl) rfl vl vl rfl (JL.nil (blkQ.n (thenQ.n (J.region_lit (Zq rfl (QW.add (.tmp rfl) .const (w64 (by omega))) (Zq rfl (QW.move (.tmp rfl)) (Zn ?_))))))))
    exact ⟨⟨j + 1, u.kid (u.fnd (p[j]'hlt)).1⟩, ⟨hlt, hf.kid (V.kid_mem hil), huw.kid (V.kid_mem hil), by rw [hwk, drop_at hlt, V.walk, if_neg (by simpa using c3)]⟩, by show p.length - (j + 1) < p.length - j; omega, Wk.re (.cons rfl lr (.cons rfl lr (.cons rfl lr (.cons rfl lr (.cons rfl lr .nil))))) (Reown.dropN 1 _ rfl) (fun _ h => by first | exact h | simp [h])⟩
  have hge : p.length ≤ j := by simpa using c2
  refine J.exit (thenQ.x (thenQ.x (blkQ.hit (thenQ.n (Zs (Zq rfl (QW.load_box 1 ty26 (.tmp rfl) rfl (take_at vl rfl) vl) (Zq rfl (QW.call gofn21 (.cons (.tmp rfl) .nil) (clone_rd Vc.self huw)) (JL.store_boxF 0 ty26 (.tmp rfl) rfl (.tmp rfl) rfl vl rfl rfl (Zq rfl (QW.assign .const) ?_)))))))))
  refine Zn (J.ret ?_)
  rw [List.drop_of_length_le hge] at hwk
  exact Zr [.k, .k] (RetEv.two rfl (REv.cell 0 ty26 rfl rfl (take_at vl rfl) vl lr) (REv.tmp rfl lr)) rfl ⟨congrArg Res.ret (getAV_of (u := u) (e := 0) (by rw [V.getv, if_neg (by simp [c1]), hwk]; rfl)).symm, rfl⟩
end Go.Proofs.YtmccnmahegbmpaaGreat.J

/- Walks: the small functions of the machine that reckons. -/
namespace Go.Proofs.YtmccnmahegbmpaaGreat.J
open Go Go.RowKit
set_option maxRecDepth 10000
set_option maxHeartbeats 4000000
theorem nd_ok (ok : Bool) (e : Int) : AC Tryz.prog 95 [] [.c (.bool ok), .c (.int .i64 e)] (PanR (ok = true) (errV e) fun x o => x = .tup [] ∧ o = []) := by
  refine AC.of_J Tryz.func95 rfl Tryz.ntmps95 rfl fun w0 A0 => ?_
  refine Zs (Zq rfl (QW.move (.tmp rfl)) (Zq rfl (QW.not (.tmp rfl)) (Zn ?_)))
  refine J.cond (.tmp rfl) (fun c1 => ?_) (fun c1 => ?_)
  · skip
    have hok : ok = false := by simpa using c1
    refine J.region_lit (Zq rfl (QW.move (.tmp rfl)) (Zq rfl (QW.mkIface ⟨_, Tryz.underlying33, by intro ms h; cases h⟩ (.tmp rfl)) ?_))
    refine JL.panic (.tmp rfl) ?_
    exact ⟨_, selP [] _, _, rfl, rfl, sel_perm [] _, PanR.pan (by simp [hok])⟩
  have hok : ok = true := by simpa using c1
  exact J.skip (Zr [] (RetEv.none rfl ) rfl (PanR.ret hok ⟨rfl, rfl⟩))
theorem boolean_ok (b : Bool) : Fn Tryz.prog 96 [.c (.bool b)] (.agg ((V.tr b).cs false)) := by
  refine AC.of_J Tryz.func96 rfl Tryz.ntmps96 rfl fun w0 A0 => ?_
  refine Zs (JL.alloc z26 rfl rfl fun b2 => Zn (Zs (Zq rfl (QW.build (idx := [0]) pl26 z26 rfl (.cons .const .nil) rfl rfl rfl rfl) (JL.alloc z26 rfl rfl fun b3 => JL.store_boxF 0 ty26 (.tmp rfl) rfl (.tmp rfl) rfl rfl rfl rfl (Zn (J.seq (Zs ?_)))))))
  refine Zq rfl (QW.move (.tmp rfl)) (Zn ?_)
  refine J.cond (.tmp rfl) (fun c1 => ?_) (fun c1 => ?_)
  · skip
    obtain rfl : b = true := by simpa using c1
    exact J.region_lit (Zq rfl (QW.field_ptr fo26_1 (.tmp rfl) rfl) (JL.store_box 0 ty22 (.tmp rfl) rfl .const rfl rfl rfl rfl rfl (Zn (Zs (Zq rfl (QW.load_box 0 ty26 (.tmp rfl) rfl rfl rfl) (JL.store_boxF 1 ty26 (.tmp rfl) rfl (.tmp rfl) rfl rfl rfl rfl (Zn (J.ret (Zr [.k, .k] (RetEv.one rfl (REv.cell 1 ty26 rfl rfl rfl rfl (.aggL (.cons lr (.cons lr (.cons lr (.cons (.nil false false _) (.cons (.nil false false _) .nil)))))))) rfl ⟨rfl, rfl⟩)))))))))
  obtain rfl : b = false := by simpa using c1
  exact Zk (Zs (Zq rfl (QW.load_box 0 ty26 (.tmp rfl) rfl rfl rfl) (JL.store_boxF 1 ty26 (.tmp rfl) rfl (.tmp rfl) rfl rfl rfl rfl (Zn (J.ret (Zr [.k, .k] (RetEv.one rfl (REv.cell 1 ty26 rfl rfl rfl rfl (.aggL (.cons lr (.cons lr (.cons lr (.cons (.nil false false _) (.cons (.nil false false _) .nil)))))))) rfl ⟨rfl, rfl⟩))))))
theorem nof_ok (b : Nat) : Fn Tryz.prog 97 [.c (.int .u64 (b : Int))] (.agg ((V.nu b).cs false)) := by
  refine AC.of_J Tryz.func97 rfl Tryz.ntmps97 rfl fun w0 A0 => ?_
  exact Zs (JL.alloc z26 rfl rfl fun b2 => Zn (Zs (Zq rfl (QW.move (.tmp rfl)) (Zq rfl (QW.build (idx := [0, 1]) pl26 z26 rfl (.cons .const (.cons (.tmp rfl) .nil)) rfl rfl rfl rfl) (JL.store_boxF 0 ty26 (.tmp rfl) rfl (.tmp rfl) rfl rfl rfl rfl (Zn (J.ret (Zr [.k] (RetEv.one rfl (REv.cell 0 ty26 rfl rfl rfl rfl (.aggL (.cons lr (.cons lr (.cons lr (.cons (.nil false false _) (.cons (.nil false false _) .nil)))))))) rfl ⟨rfl, rfl⟩))))))))
theorem made_ok {fr : Bool} {v : V} {ys : List AV} (hv : Vc fr v ys) (hw : v.wf) : AC Tryz.prog 109 [] [.agg ys] (PanR (v.err = 0) (errV 84) fun x o => x = .agg ys ∧ o = []) := by
  subst hv
  refine AC.of_J Tryz.func109 rfl Tryz.ntmps109 rfl fun w0 A0 => ?_
  refine Zs (JL.box_agg (.tmp rfl) rfl fun b1 => JL.alloc z26 rfl rfl fun b2 => Zn (Zs (Zq rfl (QW.load_box 1 ty26 (.tmp rfl) rfl (take_at vl rfl) vl) (Zq rfl (QW.call gofn16 (.cons (.tmp rfl) .nil) (check_ok (Vc.self) (by assumption))) ?_))))
  refine Zq rfl (QW.eql (.tmp rfl) .const) ?_
  refine JL.callPF [] gofn95 rfl Lent.nil (fun _ => (.cons (.tmp rfl) (.cons .const .nil))) (nd_ok _ _) (.inl rfl) (fun k6 x6 o6 h6 => ?_) (fun k6 => ?_)
  rotate_left
  · skip
    refine thenQ.p ?_
    exact ⟨_, selP [.k, .k] _, _, rfl, rfl, sel_perm [.k, .k] _, PanR.pan (by simpa using k6)⟩
  obtain ⟨rfl, rfl⟩ := h6
  exact Zn (Zs (Zq rfl (QW.load_box 1 ty26 (.tmp rfl) rfl (take_at vl rfl) vl) (JL.store_boxF 0 ty26 (.tmp rfl) rfl (.tmp rfl) rfl vl rfl rfl (Zn (J.ret (Zr [.k, .k] (RetEv.one rfl (REv.cell 0 ty26 rfl rfl (take_at vl rfl) vl lr)) rfl (PanR.ret (by simpa using k6) ⟨rfl, rfl⟩)))))))
theorem V.cs_0 (fr : Bool) (v : V) : (List.drop 0 (v.cs fr))[0]? = some (.c (.int .i64 v.kind)) := by cases v; rfl
theorem V.cs_1 (fr : Bool) (v : V) : (List.drop 1 (v.cs fr))[0]? = some (.c (.int .u64 (v.bits : Int))) := by cases v; rfl
theorem V.cs_2 (fr : Bool) (v : V) : (List.drop 2 (v.cs fr))[0]? = some (.c (str v.text)) := by cases v; rfl
theorem V.cs_4 (fr : Bool) (v : V) : (List.drop 4 (v.cs fr))[0]? = some (.sl fr false eV (V.css fr v.items)) := by cases v; rfl
def kindsB : List V → List Int → Bool
  | _, [] => true
  | [], _ :: _ => false
  | v :: l, k :: ks => v.kind == k && kindsB l ks
theorem kindsB_drop {l : List V} {ks : List Int} {j : Nat} (h : j < ks.length) (h2 : j < l.length) : kindsB (l.drop j) (ks.drop j) = (l[j].kind == ks[j] && kindsB (l.drop (j + 1)) (ks.drop (j + 1))) := by
  rw [List.drop_eq_getElem_cons h, List.drop_eq_getElem_cons h2, kindsB]
theorem kinds_ok {fr c fr2 c2 : Bool} (l : List V) (ks : List Int) (hk : ks.length ≤ l.length) (hl : l.length ≤ 1000) : AC Tryz.prog 110 [] [.sl fr c eV (V.css fr l), .sl fr2 c2 eI64 (intsAV ks)] (PanR (kindsB l ks = true) (errV 81) fun x o => x = .tup [] ∧ o = []) := by
  refine AC.of_J Tryz.func110 rfl Tryz.ntmps110 rfl fun w0 A0 => ?_
  refine Zs (Zq rfl (QW.move (.tmp rfl)) (Zq rfl (QW.len_slE sl177 (.tmp rfl) (intsAV_length _)) (Zq rfl (QW.move .const) (Zn (J.block (J.loopK (ι := Nat) [0, 6, 7] (fun j => [(8, .c (.int .i64 (j : Int)))]) (fun _ oo => oo) (fun j => j ≤ ks.length ∧ kindsB l ks = kindsB (l.drop j) (ks.drop j)) (fun j => ks.length - j) 0 (⟨Nat.zero_le _, rfl⟩) (Wk.re (.cons rfl lr (.cons rfl lr (.cons rfl lr (.cons rfl lr .nil)))) (Reown.refl _) (fun _ h => by first | exact h | simp [h])) ?_))))))
  intro j ⟨hj, hs⟩
  refine J.conv (by (try simp only [nl, stepsO, valO, nthO, curO, mrg, AV.cellsOf, splice_zero, splice_succ, Nat.reduceAdd]); rfl) ?_
  refine Zs (Zq rfl (QW.lss (.tmp rfl) (.tmp rfl)) (Zn (J.seq ?_)))
  refine J.cond (.tmp rfl) (fun c1 => ?_) (fun c1 => ?_)
  · skip
    have hlt : j < ks.length := by simpa [intsAV_length] using c1
    have hlt2 : j < l.length := by omega
    refine Zk (J.seq (J.block (Zs (Zq rfl (QW.move (.tmp rfl)) (Zq rfl (QW.index_sl sl177 ty3 rfl (.tmp rfl) (.tmp rfl) rfl (by exact intsAV_getE hlt)) ?_)))))
    refine Zq rfl (QW.load_ref1 ty3 (.tmp rfl) rfl) (Zq rfl (QW.assign (.tmp rfl)) (Zq rfl (QW.assign (.tmp rfl)) (Zn (J.region_lit (Zq rfl (QW.move (.tmp rfl)) (Zq rfl (QW.move (.tmp rfl)) (Zq rfl (QW.index_sl sl24 ty26 rfl (.tmp rfl) (.tmp rfl) rfl (by exact V.css_getE _ hlt2)) ?_)))))))
    refine Zq rfl (QW.field_ref fo26_0 (.tmp rfl) rfl) (Zq rfl (QW.load_ref1 ty3 (.tmp rfl) (V.cs_0 _ _)) (Zq rfl (QW.move (.tmp rfl)) (Zq rfl (QW.eql (.tmp rfl) (.tmp rfl)) ?_)))
    refine JL.callPF [] gofn95 rfl Lent.nil (fun _ => (.cons (.tmp rfl) (.cons .const .nil))) (nd_ok _ _) (.inl rfl) (fun k20 x20 o20 h20 => ?_) (fun k20 => ?_)
    rotate_left
    · skip
      refine blkQ.p (thenQ.p (thenQ.p (blkQ.p ?_)))
      exact ⟨_, selP [] _, _, rfl, rfl, sel_perm [] _, PanR.pan (by rw [hs, kindsB_drop hlt hlt2]; simp only [Bool.and_eq_true]; exact fun h => k20 h.1)⟩
    obtain ⟨rfl, rfl⟩ := h20
    refine JL.nil (blkQ.n (thenQ.n (J.region_lit (Zq rfl (QW.add (.tmp rfl) .const (w64 (by omega))) (Zq rfl (QW.move (.tmp rfl)) (Zn ?_))))))
    rw [kindsB_drop hlt hlt2, k20, Bool.true_and] at hs
    exact ⟨j + 1, ⟨hlt, hs⟩, by omega, Wk.re (.cons rfl lr (.cons rfl lr (.cons rfl lr (.cons rfl lr .nil)))) (Reown.refl _) (fun _ h => by first | exact h | simp [h])⟩
  have hge : ks.length ≤ j := by simpa [intsAV_length] using c1
  exact J.exit (thenQ.x (thenQ.x (blkQ.hit (Zr [] (RetEv.none rfl ) rfl (PanR.ret (by rw [hs, List.drop_of_length_le hge]; cases l.drop j <;> rfl) ⟨rfl, rfl⟩)))))
theorem eget_ok {fr : Bool} {v : V} {s : StT} {ys : List AV} (hv : Vc fr v ys) (hw : v.wf) (hs : s.wf) : AC Tryz.prog 126 [] [.agg ys, .agg s.cs] (PanR ((v.getv [s]).2 = 0) (errV (v.getv [s]).2) fun x o => x = .agg ((v.getv [s]).1.cs true) ∧ o = []) := by
  subst hv
  obtain ⟨sk, key, ix⟩ := s
  have hp : [StT.mk sk key ix].length * 32 ≤ reach ∧ ∀ x ∈ [StT.mk sk key ix], x.wf := ⟨by unfold reach; simp, fun x hx => by rw [List.mem_singleton.1 hx]; exact hs⟩
  refine AC.of_J Tryz.func126 rfl Tryz.ntmps126 rfl fun w0 A0 => ?_
  refine Zs (JL.box_agg (.tmp rfl) rfl fun b2 => JL.box_agg (.tmp rfl) rfl fun b3 => JL.alloc z26 rfl rfl fun b4 => Zn (Zs (Zq rfl (QW.load_box 2 ty26 (.tmp rfl) rfl (take_at vl rfl) vl) (Zq rfl (QW.load_box 1 ty66 (.tmp rfl) rfl rfl rfl) (Zq rfl (QW.buildSlice (idx := [0]) (xs := StT.css [⟨sk, key, ix⟩]) sl67 el66 z66 rfl (.cons (.tmp rfl) .nil) rfl rfl rfl rfl rfl rfl rfl rfl rfl) (Zq rfl (QW.call gofn18 (.cons (.tmp rfl) (.cons (.tmp rfl) .nil)) (get_ok (p := [StT.mk sk key ix]) Vc.self hw hp)) ?_))))))
  refine Zq rfl (QW.move (.tmp rfl)) (Zq rfl (QW.extract (.tmp rfl) rfl) (Zq rfl (QW.extract (.tmp rfl) rfl) (JL.alloc z26 rfl rfl fun b5 => JL.store_boxF 0 ty26 (.tmp rfl) rfl (.tmp rfl) rfl vl rfl rfl (Zq rfl (QW.assign (.tmp rfl)) (Zn (Zs (Zq rfl (QW.move (.tmp rfl)) (Zq rfl (QW.eql (.tmp rfl) .const) ?_))))))))
  refine Zq rfl (QW.move (.tmp rfl)) ?_
  refine JL.callPF [] gofn95 rfl Lent.nil (fun _ => (.cons (.tmp rfl) (.cons (.tmp rfl) .nil))) (nd_ok _ _) (.inl rfl) (fun k17 x17 o17 h17 => ?_) (fun k17 => ?_)
  rotate_left
  · skip
    refine thenQ.p ?_
    exact ⟨_, selP [.k, .k, .k, .k] _, _, rfl, rfl, sel_perm [.k, .k, .k, .k] _, PanR.pan (by simpa using k17)⟩
  obtain ⟨rfl, rfl⟩ := h17
  exact Zn (Zs (Zq rfl (QW.load_box 0 ty26 (.tmp rfl) rfl (take_at vl rfl) vl) (JL.store_boxF 1 ty26 (.tmp rfl) rfl (.tmp rfl) rfl vl rfl rfl (Zn (J.ret (Zr [.k, .k, .k, .k] (RetEv.one rfl (REv.cell 1 ty26 rfl rfl (take_at vl rfl) vl lr)) rfl (PanR.ret (by simpa using k17) ⟨rfl, rfl⟩)))))))
theorem arith_ok (o : Int) (a b : Nat) : Fn Tryz.prog 111 [.c (.int .i64 o), .c (.int .u64 (a : Int)), .c (.int .u64 (b : Int))] (.agg ((V.nu (arO o a b)).cs false)) := by
  refine AC.of_J Tryz.func111 rfl Tryz.ntmps111 rfl fun w0 A0 => ?_
  refine Zs (JL.alloc z26 rfl rfl fun b6 => Zn (J.seq (Zs (Zq rfl (QW.move (.tmp rfl)) (Zn (J.block (Zs (Zq rfl (QW.eql (.tmp rfl) .const) ?_))))))))
  refine Zq rfl (QW.assign (.tmp rfl)) (Zn ?_)
  refine J.cond (.tmp rfl) (fun c1 => ?_) (fun c1 => ?_)
  · try (exfalso; simp at *; omega; done)
    all_goals
      exact Zs (Zq rfl (QW.move (.tmp rfl)) (Zq rfl (QW.move (.tmp rfl)) (Zq rfl (QW.call gofn119 (.cons (.tmp rfl) (.cons (.tmp rfl) .nil)) (add_ok _ _)) (Zq rfl (QW.call gofn97 (.cons (.tmp rfl) .nil) (nof_ok _)) (JL.store_boxF 0 ty26 (.tmp rfl) rfl (.tmp rfl) rfl rfl rfl rfl (Zn (J.ret (blkQ.r (thenQ.r (Zr [.k] (RetEv.one rfl (REv.cell 0 ty26 rfl rfl rfl rfl lr)) rfl ⟨by rw [show arO o a b = arithN .add a b by simp at *; simp [arO, *]]; rfl, rfl⟩))))))))))
  try (exfalso; simp at *; omega; done)
  all_goals
    refine Zs (Zq rfl (QW.eql (.tmp rfl) .const) (Zq rfl (QW.assign (.tmp rfl)) (Zn ?_)))
    refine J.cond (.tmp rfl) (fun c2 => ?_) (fun c2 => ?_)
    · try (exfalso; simp at *; omega; done)
      all_goals
        exact Zs (Zq rfl (QW.move (.tmp rfl)) (Zq rfl (QW.move (.tmp rfl)) (Zq rfl (QW.call gofn120 (.cons (.tmp rfl) (.cons (.tmp rfl) .nil)) (sub_ok _ _)) (Zq rfl (QW.call gofn97 (.cons (.tmp rfl) .nil) (nof_ok _)) (JL.store_boxF 0 ty26 (.tmp rfl) rfl (.tmp rfl) rfl rfl rfl rfl (Zn (J.ret (blkQ.r (thenQ.r (Zr [.k] (RetEv.one rfl (REv.cell 0 ty26 rfl rfl rfl rfl lr)) rfl ⟨by rw [show arO o a b = arithN .sub a b by simp at *; simp [arO, *]]; rfl, rfl⟩))))))))))
    try (exfalso; simp at *; omega; done)
    all_goals
      refine Zs (Zq rfl (QW.eql (.tmp rfl) .const) (Zq rfl (QW.assign (.tmp rfl)) (Zn ?_)))
      refine J.cond (.tmp rfl) (fun c3 => ?_) (fun c3 => ?_)
      · try (exfalso; simp at *; omega; done)
        all_goals
          exact Zs (Zq rfl (QW.move (.tmp rfl)) (Zq rfl (QW.move (.tmp rfl)) (Zq rfl (QW.call gofn121 (.cons (.tmp rfl) (.cons (.tmp rfl) .nil)) (mul_ok _ _)) (Zq rfl (QW.call gofn97 (.cons (.tmp rfl) .nil) (nof_ok _)) (JL.store_boxF 0 ty26 (.tmp rfl) rfl (.tmp rfl) rfl rfl rfl rfl (Zn (J.ret (blkQ.r (thenQ.r (Zr [.k] (RetEv.one rfl (REv.cell 0 ty26 rfl rfl rfl rfl lr)) rfl ⟨by rw [show arO o a b = arithN .mul a b by simp at *; simp [arO, *]]; rfl, rfl⟩))))))))))
      try (exfalso; simp at *; omega; done)
      all_goals
        refine J.skip (blkQ.n (thenQ.n (Zs (Zq rfl (QW.move (.tmp rfl)) (Zq rfl (QW.move (.tmp rfl)) (Zq rfl (QW.call gofn122 (.cons (.tmp rfl) (.cons (.tmp rfl) .nil)) (quo_ok _ _)) (Zq rfl (QW.call gofn97 (.cons (.tmp rfl) .nil) (nof_ok _)) (JL.store_boxF 0 ty26 (.tmp rfl) rfl (.tmp rfl) rfl rfl rfl rfl (Zn ?_)))))))))
        exact J.ret (Zr [.k] (RetEv.one rfl (REv.cell 0 ty26 rfl rfl rfl rfl lr)) rfl ⟨by rw [show arO o a b = arithN .quo a b by simp at *; simp [arO, *]]; rfl, rfl⟩)
end Go.Proofs.YtmccnmahegbmpaaGreat.J

/- What is set is got; what parts from its path stays. -/
namespace Go.Proofs.YtmccnmahegbmpaaGreat.J
open Go Go.RowKit
def sameSt (s t : StT) : Bool := (s.isKey == t.isKey) && (s.isKey && (s.key == t.key) || !s.isKey && (s.index == t.index))
def sameP : List StT → List StT → Bool
  | s :: r, t :: q => sameSt s t && sameP r q
  | _, _ => true
theorem V.fnd_same {v : V} {s t : StT} (h : sameSt s t = true) : v.fnd t = v.fnd s := by
  obtain ⟨k, n, i⟩ := s
  obtain ⟨k', n', i'⟩ := t
  simp only [sameSt, Bool.and_eq_true, beq_iff_eq, Bool.or_eq_true, Bool.not_eq_true'] at h
  obtain ⟨rfl, h⟩ := h
  rcases h with ⟨rfl, rfl⟩ | ⟨rfl, rfl⟩ <;> rfl
theorem V.setAt_fnd {v x : V} {i : Nat} (s : StT) : (v.setAt i x).fnd s = v.fnd s := by
  unfold V.fnd
  rw [show (v.setAt i x).items.length = v.items.length from List.length_set]
  rfl
theorem V.kid_of {v : V} {i : Nat} {x : V} (h : v.items[i]? = some x) : v.kid i = x := by simp [V.kid, List.getD, h]
theorem V.setAt_kid {v x : V} {i : Nat} (h : i < v.items.length) : (v.setAt i x).kid i = x := by
  refine V.kid_of ?_
  show (v.items.set i x)[i]? = some x
  simp [h]
theorem V.setAt_kid_ne {v x : V} {i j : Nat} (h : i ≠ j) : (v.setAt i x).kid j = v.kid j := by
  simp [V.setAt, V.kid, V.items, List.getD, List.getElem?_set_ne h]
theorem V.fnd_key {v : V} {s : StT} {i : Nat} (hs : s.isKey = true) (h : v.fnd s = (i, 0)) : v.kind = 5 ∧ v.keys[i]? = some s.key := by
  unfold V.fnd at h
  rw [if_pos hs] at h
  split at h
  · rename_i hk
    refine ⟨hk, ?_⟩
    split at h
    · rename_i h3; cases h; exact h3
    · cases h
  · cases h
theorem V.fnd_idx {v : V} {s : StT} {i : Nat} (hs : s.isKey = false) (h : v.fnd s = (i, 0)) : v.kind = 4 ∧ s.index = (i : Int) ∧ i < v.items.length := by
  unfold V.fnd at h
  rw [if_neg (by simp [hs])] at h
  split at h
  · rename_i hk
    split at h
    · cases h
    · rename_i h3; cases h
      exact ⟨hk, by omega, by omega⟩
  · cases h
theorem V.key_fnd {v : V} {s : StT} {i : Nat} (hf : v.Fine) (hs : s.isKey = true) (hk : v.kind = 5) (h : v.keys[i]? = some s.key) : v.fnd s = (i, 0) := by
  obtain ⟨hi, he⟩ := List.getElem?_eq_some_iff.1 h
  have hl := low_eq (hf.sorted hk) hi he
  unfold V.fnd
  rw [if_pos hs, if_pos hk, hl, if_pos h]
theorem V.idx_fnd {v : V} {s : StT} {i : Nat} (hs : s.isKey = false) (hk : v.kind = 4) (h : s.index = (i : Int)) (hi : i < v.items.length) : v.fnd s = (i, 0) := by
  unfold V.fnd
  rw [if_neg (by simp [hs]), if_pos hk, if_neg (by omega), h]
  rfl
theorem V.fnd_ne {v : V} {s t : StT} {i j : Nat} (hd : sameSt s t = false) (h1 : v.fnd s = (i, 0)) (h2 : v.fnd t = (j, 0)) : i ≠ j := by
  intro e
  subst e
  cases hs : s.isKey <;> cases ht : t.isKey
  · have a := V.fnd_idx hs h1; have b := V.fnd_idx ht h2
    simp [sameSt, hs, ht] at hd
    exact hd (by omega)
  · have a := V.fnd_idx hs h1; have b := V.fnd_key ht h2
    omega
  · have a := V.fnd_key hs h1; have b := V.fnd_idx ht h2
    omega
  · have a := V.fnd_key hs h1; have b := V.fnd_key ht h2
    simp [sameSt, hs, ht] at hd
    exact hd (Option.some.inj (a.2.symm.trans b.2))
theorem get_ins {α : Type} {l : List α} {x : α} {m : Nat} (hm : m ≤ l.length) : (l.take m ++ [x] ++ l.drop m)[m]? = some x := by
  rw [List.append_assoc, List.getElem?_append_right (by simp; omega)]
  simp [Nat.min_eq_left hm]
theorem get_ins_ne {α : Type} {l : List α} {x : α} {m j : Nat} (hm : m ≤ l.length) : (l.take m ++ [x] ++ l.drop m)[if j < m then j else j + 1]? = l[j]? := by
  split
  · rename_i h
    rw [List.append_assoc, List.getElem?_append_left (by simp; omega), List.getElem?_take, if_pos h]
  · rename_i h
    rw [List.getElem?_append_right (by simp; omega), List.getElem?_drop]
    congr 1
    simp; omega
theorem V.grw_ok {v : V} {s : StT} {m : Nat} (hf : v.Fine) (h0 : (v.fnd s).2 ≠ 0) (h : v.grw s (v.fnd s).1 (v.fnd s).2 = (m, 0)) :
    (s.isKey = true ∧ v.kind = 5 ∧ m = low v.keys s.key ∧ v.keys.length = v.items.length) ∨ (s.isKey = false ∧ v.kind = 4 ∧ m = v.items.length ∧ s.index = (m : Int)) := by
  cases hs : s.isKey
  · refine .inr ?_
    have hd : v.fnd s = if v.kind = 4 then (if s.index < 0 ∨ (v.items.length : Int) ≤ s.index then (0, 82) else (s.index.toNat, 0)) else (0, 81) := by unfold V.fnd; rw [if_neg (by simp [hs])]
    split at hd
    · rename_i hk
      split at hd
      · rw [hd] at h
        simp only [V.grw] at h
        rw [if_neg (by simp)] at h
        split at h
        · rename_i h2
          split at h
          · cases h
          · cases h; exact ⟨rfl, hk, rfl, h2.2⟩
        · rw [if_pos (by decide)] at h; cases h
      · rw [hd] at h0; exact absurd rfl h0
    · rw [hd] at h
      simp only [V.grw] at h
      rw [if_neg (by simp), if_neg (by simp), if_pos (by decide)] at h; cases h
  · refine .inl ?_
    have hd : v.fnd s = if v.kind = 5 then (low v.keys s.key, if v.keys[low v.keys s.key]? = some s.key then 0 else 71) else (0, 81) := by unfold V.fnd; rw [if_pos hs]
    split at hd
    · rename_i hk
      split at hd
      · rw [hd] at h0; exact absurd rfl h0
      · rw [hd] at h
        simp only [V.grw] at h
        split at h
        · cases h
        · rw [if_neg (by simp), if_neg (by simp)] at h
          split at h
          · cases h
          · cases h; exact ⟨rfl, hk, rfl, (partOk_rec hf.part hk).1⟩
    · rw [hd] at h
      simp only [V.grw] at h
      rw [if_neg (by simp), if_neg (by simp), if_pos (by decide)] at h; cases h
theorem V.ins_items {v x : V} {s : StT} {m : Nat} : (v.ins s m x).items = v.items.take m ++ [x] ++ v.items.drop m := rfl
theorem V.ins_keys {v x : V} {s : StT} {m : Nat} (h : s.isKey = true) : (v.ins s m x).keys = v.keys.take m ++ [s.key] ++ v.keys.drop m := by show (if _ then _ else _) = _; rw [if_pos h]
theorem V.put_got {v w x : V} {s : StT} (hf : v.Fine) (hw : w.Fine) (h : v.put s x = (w, 0)) : (w.fnd s).2 = 0 ∧ w.kid (w.fnd s).1 = x := by
  unfold V.put at h
  split at h
  · rename_i h0
    cases h
    rw [V.setAt_fnd]
    exact ⟨h0, V.setAt_kid (V.fnd_lt hf.part h0)⟩
  · rename_i h0
    split at h
    · rename_i hg
      cases h
      obtain ⟨m, hm⟩ : ∃ m, m = (v.grw s (v.fnd s).1 (v.fnd s).2).1 := ⟨_, rfl⟩
      rw [← hm] at hw ⊢
      have hg2 : v.grw s (v.fnd s).1 (v.fnd s).2 = (m, 0) := Prod.ext hm.symm hg
      rcases V.grw_ok hf h0 hg2 with ⟨h1, h2, h3, h4⟩ | ⟨h1, h2, h3, h4⟩
      · have hle : m ≤ v.keys.length := h3 ▸ low_le _ _
        rw [V.key_fnd hw h1 h2 (i := m) (by rw [V.ins_keys h1]; exact get_ins hle)]
        exact ⟨rfl, V.kid_of (by rw [V.ins_items]; exact get_ins (by omega))⟩
      · rw [V.idx_fnd (v := v.ins s m x) h1 h2 h4 (by rw [V.ins_items]; simp; omega)]
        exact ⟨rfl, V.kid_of (by rw [V.ins_items]; exact get_ins (by omega))⟩
    · rename_i hg
      exact absurd (congrArg (·.2) h) hg
theorem V.put_kept {v w x : V} {s t : StT} {i : Nat} (hf : v.Fine) (hw : w.Fine) (h : v.put s x = (w, 0)) (hd : sameSt s t = false) (ht : v.fnd t = (i, 0)) : (w.fnd t).2 = 0 ∧ w.kid (w.fnd t).1 = v.kid i := by
  have hil : i < v.items.length := by have := V.fnd_lt (s := t) hf.part (by rw [ht]); rwa [ht] at this
  unfold V.put at h
  split at h
  · rename_i h0
    cases h
    rw [V.setAt_fnd, ht]
    exact ⟨rfl, V.setAt_kid_ne (V.fnd_ne hd (Prod.ext rfl h0) ht)⟩
  · rename_i h0
    split at h
    · rename_i hg
      cases h
      obtain ⟨m, hm⟩ : ∃ m, m = (v.grw s (v.fnd s).1 (v.fnd s).2).1 := ⟨_, rfl⟩
      rw [← hm] at hw ⊢
      have hg2 : v.grw s (v.fnd s).1 (v.fnd s).2 = (m, 0) := Prod.ext hm.symm hg
      have hki : v.items[i]? = some (v.kid i) := by rw [V.kid_eq hil]; exact List.getElem?_eq_getElem hil
      rcases V.grw_ok hf h0 hg2 with ⟨h1, h2, h3, h4⟩ | ⟨h1, h2, h3, h4⟩
      · have hle : m ≤ v.keys.length := h3 ▸ low_le _ _
        have htk : t.isKey = true := by
          cases hx : t.isKey with
          | true => rfl
          | false => have := V.fnd_idx hx ht; omega
        obtain ⟨-, hki2⟩ := V.fnd_key htk ht
        rw [V.key_fnd hw htk h2 (i := if i < m then i else i + 1) (by rw [V.ins_keys h1, get_ins_ne hle]; exact hki2)]
        exact ⟨rfl, V.kid_of (by rw [V.ins_items, get_ins_ne (by omega)]; exact hki)⟩
      · have htk : t.isKey = false := by
          cases hx : t.isKey with
          | false => rfl
          | true => have := V.fnd_key hx ht; omega
        obtain ⟨-, hix, -⟩ := V.fnd_idx htk ht
        rw [V.idx_fnd (v := v.ins s m x) (i := i) htk h2 hix (by rw [V.ins_items]; simp; omega)]
        refine ⟨rfl, V.kid_of ?_⟩
        have := get_ins_ne (l := v.items) (x := x) (m := m) (j := i) (by omega)
        rw [if_pos (by omega)] at this
        rw [V.ins_items, this]; exact hki
    · rename_i hg
      exact absurd (congrArg (·.2) h) hg
theorem V.set_two {v w x : V} {s t : StT} {r : List StT} (h : v.set (s :: t :: r) x = (w, 0)) : (v.fnd s).2 = 0 ∧ ∃ k, (v.kid (v.fnd s).1).set (t :: r) x = (k, 0) ∧ w = v.setAt (v.fnd s).1 k := by
  unfold V.set at h
  split at h
  · rename_i h0; exact absurd (congrArg (·.2) h) h0
  · rename_i h0
    split at h
    · rename_i h1; exact absurd (congrArg (·.2) h) h1
    · rename_i h1
      cases h
      exact ⟨by simpa using h0, _, Prod.ext rfl (by simpa using h1), rfl⟩
theorem V.set_got : ∀ {p : List StT} {v w x : V}, v.Fine → w.Fine → v.set p x = (w, 0) → w.walk p = (x, 0)
  | [], v, w, x, _, _, h => by
    have : (x, (0 : Int)) = (w, 0) := h
    cases this; rfl
  | [s], v, w, x, hf, hw, h => by
    obtain ⟨h1, h2⟩ := V.put_got hf hw h
    rw [V.walk, if_neg (by simp [h1]), h2]; rfl
  | s :: t :: r, v, w, x, hf, hw, h => by
    obtain ⟨h0, k, hk, rfl⟩ := V.set_two h
    have hlt := V.fnd_lt hf.part h0
    have hkid : (v.setAt (v.fnd s).1 k).kid (v.fnd s).1 = k := V.setAt_kid hlt
    have hkf : k.Fine := hkid ▸ hw.kid (V.kid_mem (by simpa [V.setAt, V.items] using hlt))
    rw [V.walk, V.setAt_fnd, if_neg (by simp [h0]), hkid]
    exact V.set_got (hf.kid (V.kid_mem hlt)) hkf hk
theorem V.set_kept : ∀ {p o : List StT} {v w x y : V}, v.Fine → w.Fine → v.set p x = (w, 0) → sameP p o = false → v.walk o = (y, 0) → w.walk o = (y, 0)
  | [], o, v, w, x, y, _, _, _, hs, _ => by simp [sameP] at hs
  | s :: r, [], v, w, x, y, _, _, _, hs, _ => by simp [sameP] at hs
  | [s], t :: q, v, w, x, y, hf, hw, h, hs, hy => by
    have hd : sameSt s t = false := by simpa [sameP] using hs
    rw [V.walk] at hy
    split at hy
    · rename_i h0; exact absurd (congrArg (·.2) hy) h0
    · rename_i h0
      obtain ⟨h1, h2⟩ := V.put_kept hf hw h hd (i := (v.fnd t).1) (Prod.ext rfl (by simpa using h0))
      rw [V.walk, if_neg (by simp [h1]), h2]
      exact hy
  | s :: s2 :: r, t :: q, v, w, x, y, hf, hw, h, hs, hy => by
    obtain ⟨h0, k, hk, rfl⟩ := V.set_two h
    have hlt := V.fnd_lt hf.part h0
    have hkid : (v.setAt (v.fnd s).1 k).kid (v.fnd s).1 = k := V.setAt_kid hlt
    have hkf : k.Fine := hkid ▸ hw.kid (V.kid_mem (by simpa [V.setAt, V.items] using hlt))
    rw [V.walk] at hy
    split at hy
    · rename_i h0; exact absurd (congrArg (·.2) hy) h0
    · rename_i ht
      rw [V.walk, V.setAt_fnd, if_neg ht]
      cases hd : sameSt s t with
      | true =>
        rw [V.fnd_same hd] at hy ⊢
        rw [hkid]
        have hs2 : sameP (s2 :: r) q = false := by rw [sameP, hd, Bool.true_and] at hs; exact hs
        exact V.set_kept (hf.kid (V.kid_mem hlt)) hkf hk hs2 hy
      | false =>
        rw [V.setAt_kid_ne (V.fnd_ne hd (Prod.ext rfl h0) (Prod.ext rfl (by simpa using ht)))]
        exact hy
theorem V.setv_inv {v w x : V} {p : List StT} (h : v.setv p x = (w, 0)) : v.err = 0 ∧ x.err = 0 ∧ v.set p x = (w, 0) ∧ w.err = 0 := by
  unfold V.setv at h
  split at h
  · rename_i h1; exact absurd (congrArg (·.2) h) h1
  · rename_i h1
    split at h
    · rename_i h2; exact absurd (congrArg (·.2) h) h2
    · rename_i h2
      split at h
      · rename_i h3; exact absurd (congrArg (·.2) h) h3
      · rename_i h3
        split at h
        · rename_i h4; exact absurd (congrArg (·.2) h) h4
        · rename_i h4
          have hw : (v.set p x).1 = w := congrArg (·.1) h
          exact ⟨by simpa using h1, by simpa using h2, Prod.ext hw (by simpa using h3), by rw [← hw]; simpa using h4⟩
theorem V.sets_got {v x : V} {p : List StT} (h : (v.setv p x).2 = 0) : (v.setv p x).1.getv p = (x, 0) := by
  obtain ⟨h1, h2, h3, h4⟩ := V.setv_inv (w := (v.setv p x).1) (Prod.ext rfl h)
  rw [V.getv, if_neg (by simp [h4])]
  exact V.set_got (V.fine_of h1) (V.fine_of h4) h3
theorem V.sets_kept {v x : V} {p o : List StT} (h : (v.setv p x).2 = 0) (hs : sameP p o = false) (hg : (v.getv o).2 = 0) : (v.setv p x).1.getv o = v.getv o := by
  obtain ⟨h1, h2, h3, h4⟩ := V.setv_inv (w := (v.setv p x).1) (Prod.ext rfl h)
  have hv : v.getv o = v.walk o := by rw [V.getv, if_neg (by simp [h1])]
  rw [hv] at hg ⊢
  rw [V.getv, if_neg (by simp [h4])]
  exact (V.set_kept (y := (v.walk o).1) (V.fine_of h1) (V.fine_of h4) h3 hs (Prod.ext rfl hg)).trans (Prod.ext rfl hg.symm)
end Go.Proofs.YtmccnmahegbmpaaGreat.J

/- What expressions come to may be; the fuel that they take. -/
namespace Go.Proofs.YtmccnmahegbmpaaGreat.J
open Go Go.RowKit
/-! ### values that may be -/
mutual
theorem V.chk_sz : ∀ (v : V) (lev n : Int), (v.chk lev n).1 = 0 → (v.chk lev n).2 = n + v.sz
  | .mk k b t ks is, lev, n, h => by
    unfold V.chk at h ⊢
    split at h
    · simp at h
    · split at h
      · simp at h
      · split at h
        · simp at h
        · rename_i h1 h2 h3
          rw [if_neg h1, if_neg h2, if_neg h3, V.chks_sz is lev (n + 1) h]
          simp only [V.sz]; omega
theorem V.chks_sz : ∀ (l : List V) (lev n : Int), (V.chks l lev n).1 = 0 → (V.chks l lev n).2 = n + V.szs l
  | [], lev, n, h => by simp [V.chks, V.szs]
  | x :: r, lev, n, h => by
    unfold V.chks at h ⊢
    split at h
    · rename_i h'; exact absurd h h'
    · rename_i h'
      rw [if_neg h', V.chks_sz r lev _ h, V.chk_sz x (lev + 1) n (by simpa using h')]
      simp only [V.szs]; omega
end
mutual
theorem V.chk_mono : ∀ (v : V) (lev lev' n n' : Int), (v.chk lev n).1 = 0 → lev' ≤ lev → n' ≤ n → (v.chk lev' n').1 = 0
  | .mk k b t ks is, lev, lev', n, n', h, h1, h2 => by
    unfold V.chk at h ⊢
    split at h
    · simp at h
    · split at h
      · simp at h
      · split at h
        · simp at h
        · rename_i a1 a2 a3
          rw [if_neg (by omega), if_neg (by omega), if_neg a3]
          exact V.chks_mono is lev lev' (n + 1) (n' + 1) h h1 (by omega)
theorem V.chks_mono : ∀ (l : List V) (lev lev' n n' : Int), (V.chks l lev n).1 = 0 → lev' ≤ lev → n' ≤ n → (V.chks l lev' n').1 = 0
  | [], lev, lev', n, n', h, h1, h2 => rfl
  | x :: r, lev, lev', n, n', h, h1, h2 => by
    unfold V.chks at h ⊢
    split at h
    · rename_i h'; exact absurd h h'
    · rename_i h'
      have hx := V.chk_mono x (lev + 1) (lev' + 1) n n' (by simpa using h') (by omega) h2
      have e1 := V.chk_sz x (lev + 1) n (by simpa using h')
      have e2 := V.chk_sz x (lev' + 1) n' hx
      rw [if_neg (by simp [hx])]
      exact V.chks_mono r lev lev' _ _ h h1 (by omega)
end
theorem V.chks_kid : ∀ {l : List V} {lev n : Int}, 0 ≤ lev → 0 ≤ n → (V.chks l lev n).1 = 0 → ∀ x ∈ l, x.err = 0
  | [], lev, n, _, _, h, x, hx => by cases hx
  | y :: r, lev, n, hl, hn, h, x, hx => by
    unfold V.chks at h
    split at h
    · rename_i h'; exact absurd h h'
    · rename_i h'
      have h'' : (y.chk (lev + 1) n).1 = 0 := by simpa using h'
      rcases List.mem_cons.1 hx with rfl | hx
      · exact V.chk_mono _ _ _ _ _ h'' (by omega) hn
      · have := (V.chk_bounds y (lev + 1) n).1
        exact V.chks_kid hl (by omega) h x hx
theorem V.kid_err {v x : V} (h : v.err = 0) (hx : x ∈ v.items) : x.err = 0 := by
  obtain ⟨k, b, t, ks, is⟩ := v
  unfold V.err V.chk at h
  rw [if_neg (by decide), if_neg (by decide)] at h
  split at h
  · simp at h
  · exact V.chks_kid (by decide) (by decide) h x hx
structure V.good (v : V) : Prop where
  wf : v.wf
  err : v.err = 0
theorem V.good.kid {v x : V} (h : v.good) (hx : x ∈ v.items) : x.good := ⟨h.wf.kid hx, V.kid_err h.err hx⟩
theorem V.good.fine {v : V} (h : v.good) : v.Fine := V.fine_of h.err
theorem V.err_leaf {k : Int} {b : Nat} {t : Str} (h : partOk (.mk k b t [] []) = true) : (V.mk k b t [] []).err = 0 := by
  unfold V.err V.chk
  rw [if_neg (by decide), if_neg (by decide), if_neg (by simp [h])]; rfl
theorem V.good_nil : V.nil.good := ⟨V.wf_nil, by decide⟩
theorem V.good_tr (b : Bool) : (V.tr b).good := by cases b <;> exact ⟨.mk (by decide) (by decide) (by decide) (by decide) (by decide) (fun _ h => by cases h) (fun _ h => by cases h), by decide⟩
theorem V.good_nu {b : Nat} (hb : b < 2 ^ 64) (h : canonN b = b) : (V.nu b).good :=
  ⟨.mk (by decide) hb (by decide) (by decide) (by decide) (fun _ h => by cases h) (fun _ h => by cases h), V.err_leaf (by simp [partOk, h])⟩
theorem V.good_tx {t : Str} (h : t.length ≤ 128) : (V.tx t).good :=
  ⟨.mk (by decide) (by decide) (by unfold reach; omega) (by decide) (by decide) (fun _ h => by cases h) (fun _ h => by cases h), V.err_leaf (by simp [partOk, h])⟩
theorem canon_fix {c : Nat} (h : isNan c = false) : canonN c = c := by simp [canonN, h]
theorem arith_good (op : BinOp) (a b : Nat) : arithN op a b < 2 ^ 64 ∧ canonN (arithN op a b) = arithN op a b := by
  unfold arithN
  cases h : farithN op a b with
  | none => exact ⟨by decide, by decide⟩
  | some c => have := farith_some h; exact ⟨this.2, canon_fix this.1⟩
theorem arO_good (o : Int) (a b : Nat) : arO o a b < 2 ^ 64 ∧ canonN (arO o a b) = arO o a b := by
  unfold arO; repeat' split
  all_goals exact arith_good _ _ _
theorem floor_good (b : Nat) : floorC b < 2 ^ 64 ∧ canonN (floorC b) = floorC b := by
  unfold floorC
  cases h : isNan b with
  | true => rw [if_pos rfl]; exact ⟨by decide, by decide⟩
  | false => exact ⟨write_lt64 _, canon_fix (write_nonnan (integral_nonnan h .down))⟩
theorem ofN_good (n : Int) : ofN n < 2 ^ 64 ∧ canonN (ofN n) = ofN n := by
  unfold ofN
  split
  · exact ⟨by decide, by decide⟩
  · rename_i h
    obtain ⟨r, h1, _, h2, _⟩ := near_word (n := n) (by omega)
    exact ⟨nearest_lt, canon_fix (by unfold nearN; rw [h2]; exact isNan_word (by omega))⟩
theorem natD_len : ∀ (k n : Nat), n < 10 ^ (k + 1) → (natD n).length ≤ k + 1
  | 0, n, h => by unfold natD; rw [if_pos (by simpa using h)]; simp
  | k + 1, n, h => by
    unfold natD
    split
    · simp
    · rw [List.length_append, List.length_singleton]
      have := natD_len k (n / 10) (by rw [Nat.pow_succ] at h; omega)
      omega
theorem intV_bounds (b : Nat) (h : intE b = 0) : -9007199254740992 ≤ intV b ∧ intV b ≤ 9007199254740992 := by
  unfold intV
  split
  · omega
  · rename_i h1
    have := small_whole (b := b) (by omega)
    unfold svF; have h4 : (2 : Nat) ^ 53 = 9007199254740992 := by decide
    rw [h4] at this; generalize magn (rung b) / unitV = q at *; split <;> omega
theorem V.walk_good : ∀ {p : List StT} {v : V}, v.good → (v.walk p).2 = 0 → (v.walk p).1.good
  | [], v, h, _ => h
  | s :: r, v, h, he => by
    unfold V.walk at he ⊢
    split at he
    · rename_i h1; exact absurd he h1
    · rename_i h1
      rw [if_neg h1]
      have hlt := V.fnd_lt h.fine.part (by simpa using h1)
      exact V.walk_good (h.kid (V.kid_mem hlt)) he
theorem getE_good {v u : V} {s : StT} (h : v.good) (hg : getE v s = .ok u) : u.good := by
  unfold getE at hg
  split at hg
  · rename_i he
    cases hg
    unfold V.getv at he ⊢
    rw [if_neg (by simp [h.err])] at he ⊢
    exact V.walk_good h he
  · cases hg
theorem setE_good {v u x : V} {s : StT} (h : v.good) (hs : s.wf) (hx : x.good) (hg : setE v s x = .ok u) : u.good := by
  unfold setE at hg
  split at hg
  · rename_i he
    cases hg
    refine ⟨V.setv_wf h.wf (fun t ht => by obtain rfl := List.mem_singleton.1 ht; exact hs) hx.wf, ?_⟩
    obtain ⟨w, hw⟩ : ∃ w, v.setv [s] x = (w, 0) := ⟨_, Prod.ext rfl he⟩
    rw [hw]
    exact (V.setv_inv hw).2.2.2
  · cases hg
theorem made_good {l : List V} {u : V} (hl : ∀ x ∈ l, x.wf) (h : madeE (.li l) = .ok u) : u = .li l ∧ u.good := by
  unfold madeE at h
  split at h
  · rename_i he
    cases h
    refine ⟨rfl, .mk (by decide) (by decide) (by decide) (by decide) ?_ (fun _ h => by cases h) hl, he⟩
    have hp := (V.fine_of he).part
    have : l.length ≤ 32 := (partOk_len hp).1
    unfold reach; omega
  · cases h
theorem V.good.bits {v : V} (h : v.good) : v.bits < 2 ^ 64 := by obtain ⟨k, b, t, ks, is⟩ := v; exact h.wf.inv.2.1
theorem V.good.len {v : V} (h : v.good) : v.items.length ≤ 32 := (partOk_len h.fine.part).1
theorem one_good {o : Int} {t : Str} {a u : V} (ha : a.good) (h : oneE o t a = .ok u) : u.good := by
  unfold oneE at h
  split at h
  · exact getE_good ha h
  · split at h
    · split at h
      · cases h
      · cases h; exact V.good_nu (ofN_good _).1 (ofN_good _).2
    · split at h
      · split at h
        · cases h; exact V.good_nu (floor_good _).1 (floor_good _).2
        · cases h
      · split at h
        · split at h
          · cases h; exact V.good_tr _
          · cases h
        · split at h
          · cases h
          · split at h
            · cases h
            · rename_i he
              cases h
              have hb := intV_bounds a.bits (by simpa using he)
              have := natD_len 15 (intV a.bits).natAbs (by omega)
              refine V.good_tx ?_
              unfold intD; split <;> (try simp only [List.length_cons]) <;> omega
theorem two_good {o : Int} {t : Str} {a b u : V} (ht : t.length ≤ reach) (ha : a.good) (hb : b.good) (h : twoE o t a b = .ok u) : u.good := by
  unfold twoE at h
  repeat' split at h
  all_goals first | (cases h; done) | skip
  · exact getE_good ha h
  · cases h; exact V.good_tr _
  · cases h; exact V.good_tr _
  · rename_i h1 h2; cases h; exact V.good_tx (by simp; omega)
  · exact setE_good ha ⟨show ([] : Str).length ≤ reach by unfold reach; simp, by have := ha.len; show (-9223372036854775808 : Int) ≤ (a.items.length : Int) ∧ (a.items.length : Int) ≤ 9223372036854775807; omega⟩ hb h
  · exact setE_good ha ⟨ht, show (-9223372036854775808 : Int) ≤ 0 ∧ (0 : Int) ≤ 9223372036854775807 by decide⟩ hb h
  · cases h; exact V.good_nu (arO_good _ _ _).1 (arO_good _ _ _).2
theorem plain_good {o : Int} {t : Str} {l : List V} {u : V} (ht : t.length ≤ reach) (hl : ∀ x ∈ l, x.good) (h : plainE o t l = .ok u) : u.good := by
  unfold plainE at h
  split at h
  · exact (made_good (fun x hx => (hl x hx).wf) h).2
  · split at h
    · exact one_good (hl _ (by simp)) h
    · exact two_good ht (hl _ (by simp)) (hl _ (by simp)) h
    · cases h
def OkE (f : Int) (d : Int) (r : ER V) : Prop := ∀ v f', r = .ok (v, f') → v.good ∧ f' ≤ f - d ∧ 0 ≤ f'
structure ScT.good (s : ScT) : Prop where
  st : s.st.good
  ev : s.ev.good
  it : s.it.good
theorem mapE_good {g : V → Int → ER V} (hg : ∀ x f, x.good → 0 ≤ f → OkE f 0 (g x f)) : ∀ (l : List V) (f : Int), (∀ x ∈ l, x.good) → 0 ≤ f → ∀ ys f', mapE g l f = .ok (ys, f') → (∀ y ∈ ys, y.good) ∧ f' ≤ f ∧ 0 ≤ f'
  | [], f, hl, h0, ys, f', h => by cases h; exact ⟨fun y hy => (by cases hy), Int.le_refl _, h0⟩
  | x :: r, f, hl, h0, ys, f', h => by
    unfold mapE at h
    split at h
    · cases h
    · rename_i y f1 h1
      split at h
      · cases h
      · rename_i l f2 h2
        cases h
        obtain ⟨a1, a2, a3⟩ := hg x f (hl x (by simp)) h0 _ _ h1
        obtain ⟨b1, b2, b3⟩ := mapE_good hg r f1 (fun z hz => hl z (by simp [hz])) a3 _ _ h2
        exact ⟨fun z hz => (List.mem_cons.1 hz).elim (fun e => e ▸ a1) (b1 z), by omega, b3⟩
theorem truE_ok {r : ER V} {b : Bool} {f' : Int} (h : truE r = .ok (b, f')) : ∃ v, r = .ok (v, f') ∧ v.kind = 1 ∧ b = (v.bits == 1) := by
  unfold truE at h
  split at h
  · cases h
  · split at h
    · rename_i v f hk; cases h; exact ⟨v, rfl, hk, rfl⟩
    · cases h
theorem filE_good {g : V → Int → ER V} (hg : ∀ x f, x.good → 0 ≤ f → OkE f 0 (g x f)) : ∀ (l : List V) (f : Int), (∀ x ∈ l, x.good) → 0 ≤ f → ∀ ys f', filE (fun x f => truE (g x f)) l f = .ok (ys, f') → (∀ y ∈ ys, y ∈ l) ∧ f' ≤ f ∧ 0 ≤ f'
  | [], f, hl, h0, ys, f', h => by cases h; exact ⟨fun y hy => (by cases hy), Int.le_refl _, h0⟩
  | x :: r, f, hl, h0, ys, f', h => by
    unfold filE at h
    split at h
    · cases h
    · rename_i b f1 h1
      split at h
      · cases h
      · rename_i l f2 h2
        cases h
        obtain ⟨v, h3, _, _⟩ := truE_ok h1
        obtain ⟨a1, a2, a3⟩ := hg x f (hl x (by simp)) h0 _ _ h3
        obtain ⟨b1, b2, b3⟩ := filE_good hg r f1 (fun z hz => hl z (by simp [hz])) a3 _ _ h2
        refine ⟨fun z hz => ?_, by omega, b3⟩
        split at hz
        · exact (List.mem_cons.1 hz).elim (fun e => by simp [e]) (fun h => by simp [b1 z h])
        · simp [b1 z hz]
theorem fndE_good {g : V → Int → ER V} (hg : ∀ x f, x.good → 0 ≤ f → OkE f 0 (g x f)) : ∀ (l : List V) (f : Int), (∀ x ∈ l, x.good) → 0 ≤ f → OkE f 0 (fndE (fun x f => truE (g x f)) l f)
  | [], f, hl, h0, v, f', h => by cases h
  | x :: r, f, hl, h0, v, f', h => by
    unfold fndE at h
    split at h
    · cases h
    · rename_i b f1 h1
      obtain ⟨u, h3, _, _⟩ := truE_ok h1
      obtain ⟨a1, a2, a3⟩ := hg x f (hl x (by simp)) h0 _ _ h3
      split at h
      · cases h; exact ⟨hl x (by simp), by omega, a3⟩
      · obtain ⟨b1, b2, b3⟩ := fndE_good hg r f1 (fun z hz => hl z (by simp [hz])) a3 _ _ h
        exact ⟨b1, by omega, b3⟩
theorem madeF_ok {r : ER (List V)} {v : V} {f : Int} (h : madeF r = .ok (v, f)) : ∃ l, r = .ok (l, f) ∧ madeE (.li l) = .ok v := by
  unfold madeF at h
  split at h
  · cases h
  · split at h
    · cases h
    · rename_i h1; cases h; exact ⟨_, rfl, h1⟩
theorem overE_good {o : Int} {g : V → Int → ER V} {r : ER V} {f : Int} (hr : OkE f 0 r) (hg : ∀ x f, x.good → 0 ≤ f → OkE f 0 (g x f)) : OkE f 0 (overE o g r) := fun v f' h => by
  unfold overE at h
  split at h
  · cases h
  · rename_i u f1
    obtain ⟨a1, a2, a3⟩ := hr u f1 rfl
    have hk : ∀ x ∈ u.items, x.good := fun x hx => a1.kid hx
    split at h
    · cases h
    · split at h
      · obtain ⟨l, h1, h2⟩ := madeF_ok h
        obtain ⟨b1, b2, b3⟩ := mapE_good hg _ _ hk a3 _ _ h1
        exact ⟨(made_good (fun x hx => (b1 x hx).wf) h2).2, by omega, b3⟩
      · split at h
        · obtain ⟨l, h1, h2⟩ := madeF_ok h
          obtain ⟨b1, b2, b3⟩ := filE_good hg _ _ hk a3 _ _ h1
          exact ⟨(made_good (fun x hx => (hk x (b1 x hx)).wf) h2).2, by omega, b3⟩
        · obtain ⟨b1, b2, b3⟩ := fndE_good hg _ _ hk a3 _ _ h
          exact ⟨b1, by omega, b3⟩
mutual
theorem EX.ev_good : ∀ (e : EX) (s : ScT) (f : Int), e.Fine → e.wf → s.good → OkE f 1 (e.ev s f)
  | .mk o b t l, s, f, hf, hw, hs, v, f', h => by
    have hok := hf.part
    obtain ⟨-, hb, ht, -, hwl⟩ := hw.inv
    have hbd := EX.ok_bounds hok
    rw [EX.ev] at h
    by_cases h0 : f < 1
    · rw [if_pos h0] at h; cases h
    rw [if_neg h0] at h
    by_cases c : o = 0
    · rw [if_pos c] at h
      cases h; exact ⟨V.good_nil, by omega, by omega⟩
    rw [if_neg c] at h; clear c
    by_cases c : o = 1
    · rw [if_pos c] at h
      cases h; exact ⟨V.good_tr _, by omega, by omega⟩
    rw [if_neg c] at h; clear c
    by_cases c : o = 2
    · rw [if_pos c] at h
      cases h; exact ⟨V.good_tr _, by omega, by omega⟩
    rw [if_neg c] at h; clear c
    by_cases c : o = 3
    · rw [if_pos c] at h
      cases h
      refine ⟨V.good_nu hb ?_, by omega, by omega⟩
      subst c
      have h9 : (if (3 : Int) = 3 then canonN b == b else b == 0) = true := by simp only [EX.ok, Bool.and_eq_true] at hok; exact hok.2
      simpa using h9
    rw [if_neg c] at h; clear c
    by_cases c : o = 4
    · rw [if_pos c] at h
      cases h; exact ⟨V.good_tx hbd.2.2.1, by omega, by omega⟩
    rw [if_neg c] at h; clear c
    by_cases c : o = 5
    · rw [if_pos c] at h
      cases h; exact ⟨hs.st, by omega, by omega⟩
    rw [if_neg c] at h; clear c
    by_cases c : o = 6
    · rw [if_pos c] at h
      cases h; exact ⟨hs.ev, by omega, by omega⟩
    rw [if_neg c] at h; clear c
    by_cases c : o = 7
    · rw [if_pos c] at h
      cases h; exact ⟨hs.it, by omega, by omega⟩
    rw [if_neg c] at h; clear c
    by_cases c : o = 18
    · rw [if_pos c] at h
      obtain ⟨a1, a2, a3⟩ := EX.evAO_good false l s (f - 1) (fun x hx => ⟨hf.kid hx, hwl x hx⟩) hs v f' h; exact ⟨a1, by omega, a3⟩
    rw [if_neg c] at h; clear c
    by_cases c : o = 19
    · rw [if_pos c] at h
      obtain ⟨a1, a2, a3⟩ := EX.evAO_good true l s (f - 1) (fun x hx => ⟨hf.kid hx, hwl x hx⟩) hs v f' h; exact ⟨a1, by omega, a3⟩
    rw [if_neg c] at h; clear c
    by_cases c : o = 21
    · rw [if_pos c] at h
      obtain ⟨a1, a2, a3⟩ := EX.evIf_good l s (f - 1) (fun x hx => ⟨hf.kid hx, hwl x hx⟩) hs v f' h; exact ⟨a1, by omega, a3⟩
    rw [if_neg c] at h; clear c
    by_cases c : o = 27 ∨ o = 28 ∨ o = 29
    · rw [if_pos c] at h
      obtain ⟨a1, a2, a3⟩ := EX.evOv_good o l s (f - 1) (fun x hx => ⟨hf.kid hx, hwl x hx⟩) hs v f' h; exact ⟨a1, by omega, a3⟩
    rw [if_neg c] at h; clear c
    split at h
    · cases h
    · rename_i vs f1 h1
      split at h
      · cases h
      · rename_i u h2
        cases h
        obtain ⟨a1, a2, a3⟩ := EX.evs_good l s (f - 1) (fun x hx => ⟨hf.kid hx, hwl x hx⟩) hs (by omega) _ _ h1
        exact ⟨plain_good ht a1 h2, by omega, a3⟩
theorem EX.evs_good : ∀ (l : List EX) (s : ScT) (f : Int), (∀ x ∈ l, x.Fine ∧ x.wf) → s.good → 0 ≤ f → ∀ vs f', EX.evs l s f = .ok (vs, f') → (∀ x ∈ vs, x.good) ∧ f' ≤ f ∧ 0 ≤ f'
  | [], s, f, hl, hs, h0, vs, f', h => by unfold EX.evs at h; cases h; exact ⟨fun x hx => (by cases hx), Int.le_refl _, h0⟩
  | x :: r, s, f, hl, hs, h0, vs, f', h => by
    unfold EX.evs at h
    split at h
    · cases h
    · rename_i v f1 h1
      split at h
      · cases h
      · rename_i vs f2 h2
        cases h
        obtain ⟨a1, a2, a3⟩ := EX.ev_good x s f (hl x (by simp)).1 (hl x (by simp)).2 hs _ _ h1
        obtain ⟨b1, b2, b3⟩ := EX.evs_good r s f1 (fun z hz => hl z (by simp [hz])) hs a3 _ _ h2
        exact ⟨fun z hz => (List.mem_cons.1 hz).elim (fun e => e ▸ a1) (b1 z), by omega, b3⟩
theorem EX.evAO_good : ∀ (k : Bool) (l : List EX) (s : ScT) (f : Int), (∀ x ∈ l, x.Fine ∧ x.wf) → s.good → OkE f 1 (EX.evAO k l s f)
  | k, [], s, f, hl, hs, v, f', h => by unfold EX.evAO at h; cases h
  | k, [_], s, f, hl, hs, v, f', h => by unfold EX.evAO at h; cases h
  | k, x :: y :: _, s, f, hl, hs, v, f', h => by
    unfold EX.evAO at h
    split at h
    · cases h
    · rename_i b1 f1 h1
      obtain ⟨u, h2, _, _⟩ := truE_ok h1
      obtain ⟨a1, a2, a3⟩ := EX.ev_good x s f (hl x (by simp)).1 (hl x (by simp)).2 hs _ _ h2
      split at h
      · cases h; exact ⟨V.good_tr _, by omega, a3⟩
      · split at h
        · cases h
        · rename_i b2 f2 h3
          obtain ⟨u, h4, _, _⟩ := truE_ok h3
          obtain ⟨b1, b2, b3⟩ := EX.ev_good y s f1 (hl y (by simp)).1 (hl y (by simp)).2 hs _ _ h4
          cases h; exact ⟨V.good_tr _, by omega, b3⟩
theorem EX.evIf_good : ∀ (l : List EX) (s : ScT) (f : Int), (∀ x ∈ l, x.Fine ∧ x.wf) → s.good → OkE f 1 (EX.evIf l s f)
  | [], s, f, hl, hs, v, f', h => by unfold EX.evIf at h; cases h
  | [_], s, f, hl, hs, v, f', h => by unfold EX.evIf at h; cases h
  | [_, _], s, f, hl, hs, v, f', h => by unfold EX.evIf at h; cases h
  | x :: y :: z :: _, s, f, hl, hs, v, f', h => by
    unfold EX.evIf at h
    split at h
    · cases h
    · rename_i b1 f1 h1
      obtain ⟨u, h2, _, _⟩ := truE_ok h1
      obtain ⟨a1, a2, a3⟩ := EX.ev_good x s f (hl x (by simp)).1 (hl x (by simp)).2 hs _ _ h2
      split at h
      · obtain ⟨b1, b2, b3⟩ := EX.ev_good y s f1 (hl y (by simp)).1 (hl y (by simp)).2 hs _ _ h; exact ⟨b1, by omega, b3⟩
      · obtain ⟨b1, b2, b3⟩ := EX.ev_good z s f1 (hl z (by simp)).1 (hl z (by simp)).2 hs _ _ h; exact ⟨b1, by omega, b3⟩
theorem EX.evOv_good : ∀ (o : Int) (l : List EX) (s : ScT) (f : Int), (∀ x ∈ l, x.Fine ∧ x.wf) → s.good → OkE f 0 (EX.evOv o l s f)
  | o, [], s, f, hl, hs, v, f', h => by unfold EX.evOv at h; cases h
  | o, [_], s, f, hl, hs, v, f', h => by unfold EX.evOv at h; cases h
  | o, x :: y :: _, s, f, hl, hs, v, f', h => by
    unfold EX.evOv at h
    have h1 : OkE f 0 (x.ev s f) := fun u f1 h1 => by
      obtain ⟨a1, a2, a3⟩ := EX.ev_good x s f (hl x (by simp)).1 (hl x (by simp)).2 hs _ _ h1
      exact ⟨a1, by omega, a3⟩
    exact overE_good (g := fun it f => y.ev { s with it } f) h1 (fun z g hz hg u f1 h2 => by
      obtain ⟨a1, a2, a3⟩ := EX.ev_good y { s with it := z } g (hl y (by simp)).1 (hl y (by simp)).2 ⟨hs.st, hs.ev, hz⟩ _ _ h2
      exact ⟨a1, by omega, a3⟩) v f' h
end
end Go.Proofs.YtmccnmahegbmpaaGreat.J

/- A function value is called that may panic. -/
namespace Go.Proofs.YtmccnmahegbmpaaGreat.J
open Go Go.RowKit
section
variable {P : Program} {E : Ent} {Q : Exit → St → Prop} {n : Nat} {env : List (Nat × AV)} {own : List Own} {F : List (Value × AV)} {D : List Deferred} {ops : Array Oper} {rest : List Oper}
variable {ty : TypeId} {pos : String} {af : Array Edge} {d : Nat}
theorem JL.callPV (ms : List Cd) {f : FuncId} {fo : Operand} {fi ca : List Value} {l : List Operand} {tys : Array TypeId} {xs zs : List AV} {ok : Prop} {e : Value} {Rx : AV → List Own → Prop} {G : List (Value × AV)} (hf : goFn P f = true) (hd : Nat.blt d n = true)
    (hfo : Ev E ⟨n, env, own, F, D⟩ fo (.c (.func (.func f) fi.toArray ca.toArray))) (hG : Lent G (selL ms own)) (hargs : ∀ E', EvL E' ⟨n, env, selP ms own ++ selK ms own, G ++ F, D⟩ l xs) (hzs : fi.map AV.c ++ xs ++ ca.map AV.c = zs) (hAC : AC P f (selP ms own) zs (PanR ok e Rx))
    (hfr : selL ms own = [] ∨ FreshX Rx)
    (hret : ok → ∀ x own', Rx x own' → JL P E ops rest ⟨n, (d, x) :: env, mrg ms own' own, F, D⟩ Q)
    (hpan : ¬ ok → Q (.panic [{ v := e, recovered := false }]) ⟨n, env, mrg ms [] own, F, D⟩) :
    JL P E ops (⟨some d, .call ⟨.value fo, l.toArray, tys⟩, ty, pos, af, none⟩ :: rest) ⟨n, env, own, F, D⟩ Q :=
  JL.callG ms hf hd hfo hG hargs hzs hAC (hfr.imp id fun h r o hR => by
      rcases hR with ⟨_, x, h1, h2⟩ | ⟨_, h1, h2⟩
      · subst h1; exact h x o h2
      · subst h1 h2; exact ⟨trivial, fun x hx => by cases hx⟩)
    (fun x own' hR => by
      rcases hR with ⟨h0, y, h1, h2⟩ | ⟨_, h1, _⟩
      · cases h1; exact hret h0 _ _ h2
      · cases h1)
    (fun v own' hR => by
      rcases hR with ⟨_, y, h1, _⟩ | ⟨h0, h1, h2⟩
      · cases h1
      · cases h1; subst h2; exact hpan h0)
end
end Go.Proofs.YtmccnmahegbmpaaGreat.J

/- A place within an owned value: what the whole is when another value stands there. -/
namespace Go.Proofs.YtmccnmahegbmpaaGreat.J
open Go Go.RowKit
theorem Reown.fold {b cap : Nat} {ys : List AV} {v : Value} {e : ETy} {xs : List (List AV)} (hv : v = sv b 0 xs.length (cap + 1)) (hle : xs.length ≤ cap + 1)
    (hs : ∀ x ∈ xs, x.length = e.sz) (hl : ys.length = (cap + 1) * e.sz) (hp : ys.take xs.flatten.length = xs.flatten) : Reown [.box b ys] [.arr v e xs] := by
  subst hv
  refine ⟨fun x => by simp [fps_cons, fps_nil, Own.fp, arrFp, sv], fun w A h => ?_⟩
  simp only [List.forall_mem_cons, List.not_mem_nil, false_implies, implies_true, and_true] at h ⊢
  simp only [Own.ok] at h ⊢
  obtain ⟨us, t, h1, h2, h3⟩ := h
  refine .inr ⟨b, cap, us, t, rfl, h1, hle, ⟨by rw [h2, hl], fun k u hu => ?_⟩, hs, fun k y hk => ?_⟩
  · have hk : k < ys.length := by rw [← h2]; exact (Array.getElem?_eq_some_iff.1 hu).1
    obtain ⟨u', g1, g2, _⟩ := h3 k _ (List.getElem?_eq_getElem hk)
    rw [Nat.zero_add, hu] at g1
    cases g1; exact g2
  · refine h3 k y ?_
    have hk1 := (List.getElem?_eq_some_iff.1 hk).1
    rw [← hp] at hk
    rw [List.getElem?_take] at hk
    rwa [if_pos hk1] at hk
theorem Reown.hd {o : Own} {a l : List Own} (h : Reown [o] a) : Reown (o :: l) (a ++ l) :=
  (Reown.perm (List.perm_append_singleton o l).symm).trans ((Reown.left (c := l) h).trans (Reown.perm List.perm_append_comm))
def Law (b : Nat) (pre post : List AV) (ctx : Own) (b0 : Nat) (plug : V → V) : Prop :=
  ∀ (x : V) (kv iv : Value) (ok oi : Own), x.wf → VTr x kv iv ok oi → ∃ kw iw okw oiw, VTr (plug x) kw iw okw oiw ∧ Reown [.box b (pre ++ x.raw kv iv ++ post), ok, oi, ctx] [.box b0 ((plug x).raw kw iw), okw, oiw]
theorem Law.root (b : Nat) : Law b [] [] (.grp []) b id := fun x kv iv ok oi _ h => ⟨kv, iv, ok, oi, h, by
  rw [List.append_nil, List.nil_append]
  exact Reown.msk [.p, .p, .p] _ rfl⟩
theorem kids_at {is : List V} {cs : List (List AV)} {us : List Value} {o : Own} {i : Nat} (hlt : i < is.length) (hl : cs.length = is.length) (h3 : ∀ x ∈ cs, x.length = 5) (hf : cs.flatten = us.map AV.c) (h1 : us.all (·.oneCell') = true) (h : TrL (V.css true is).flatten us o) :
    ∃ kv iv ok oi ob oa u1 u3, cs[i]? = some ((is[i]'hlt).raw kv iv) ∧ VTr (is[i]'hlt) kv iv ok oi ∧ TrL (V.css true (is.take i)).flatten u1 ob ∧ TrL (V.css true (is.drop (i + 1))).flatten u3 oa ∧ (cs.take i).flatten = u1.map AV.c ∧ (cs.drop (i + 1)).flatten = u3.map AV.c ∧
      u1.all (·.oneCell') = true ∧ u3.all (·.oneCell') = true ∧ Reown [o] [ok, oi, ob, oa] := by
  have hsp : (V.css true is).flatten = (V.css true (is.take i)).flatten ++ (V.css true (is.drop i)).flatten := by
    rw [← List.flatten_append, ← V.css_append, List.take_append_drop]
  rw [hsp] at h
  obtain ⟨u1, u2, o1, o2, rfl, g1, g2, g3⟩ := h.split
  rw [List.all_append, Bool.and_eq_true] at h1
  have hlen : (cs.take i).flatten.length = u1.length := by
    rw [← g1.length, flatten_length (sz := 5) _ (fun x hx => h3 x (List.mem_of_mem_take hx)), flatten_length (sz := 5) _ (V.css_sz true _), V.css_length, List.length_take, List.length_take, hl]
  have hf2 : (cs.take i).flatten ++ (cs.drop i).flatten = u1.map AV.c ++ u2.map AV.c := by
    rw [← List.flatten_append, List.take_append_drop, hf, List.map_append]
  obtain ⟨k1, k2⟩ := List.append_inj hf2 (by simpa using hlen)
  obtain ⟨kv, iv, ok, oi, u3, o3, e1, e2, e3, e4, e5, e6⟩ := kids_take hlt hl h3 k2 h1.2 g2
  refine ⟨kv, iv, ok, oi, o1, o3, u1, u3, e1, e2, g1, e5, k1, e3, h1.1, e4, ?_⟩
  exact (Reown.pair g3).trans ((Reown.cons e6).trans (Reown.perm (by
    simpa using (List.perm_append_comm (l₁ := [o1]) (l₂ := [ok, oi])).append_right [o3])))
theorem set_parts {α : Type} {l : List α} {i : Nat} {x : α} (h : i < l.length) : l.set i x = l.take i ++ x :: l.drop (i + 1) := by
  rw [List.set_eq_take_append_cons_drop, if_pos h]
theorem Law.into {b b0 b2 cap i : Nat} {pre post : List AV} {ctx ok ob oa : Own} {plug : V → V} {u : V} {kv iv : Value} {cs : List (List AV)} {sp u1 u3 : List Value} (hL : Law b pre post ctx b0 plug) (huw : u.wf) (hk1 : kv.oneCell' = true) (hi1 : iv.oneCell' = true) (hks : Tr (.sl true false eStr (keysAV u.keys)) kv ok)
    (hlt : i < u.items.length) (hcl : cs.length = u.items.length) (h5 : ∀ x ∈ cs, x.length = 5) (hiv : iv = sv b2 0 cs.length (cap + 1)) (hcap : cs.length ≤ cap + 1) (hsz : cs.flatten.length + sp.length = (cap + 1) * 5)
    (t1 : TrL (V.css true (u.items.take i)).flatten u1 ob) (t3 : TrL (V.css true (u.items.drop (i + 1))).flatten u3 oa) (f1 : (cs.take i).flatten = u1.map AV.c) (f3 : (cs.drop (i + 1)).flatten = u3.map AV.c) (a1 : u1.all (·.oneCell') = true) (a3 : u3.all (·.oneCell') = true) :
    Law b2 (cs.take i).flatten ((cs.drop (i + 1)).flatten ++ sp.map AV.c) (.grp [.box b (pre ++ u.raw kv iv ++ post), ok, ob, oa, ctx]) b0 (fun x => plug (u.setAt i x)) := fun x kx ix okx oix hxw hx => by
  have hclt : i < cs.length := by omega
  have hflat : (cs.set i (x.raw kx ix)).flatten = (u1 ++ (x.vals kx ix ++ u3)).map AV.c := by
    rw [set_parts hclt, List.flatten_append, List.flatten_cons, f1, f3, V.raw_eq, List.map_append, List.map_append]
  have hrl : (x.raw kx ix).length = 5 := rfl
  have h5' : ∀ z ∈ cs.set i (x.raw kx ix), z.length = 5 := fun z hz => (List.mem_or_eq_of_mem_set hz).elim (h5 z) fun e => e ▸ rfl
  have hits : u.items.length * 80 ≤ reach := by obtain ⟨k, b, t, ks, is⟩ := u; exact huw.inv.2.2.2.2.1
  have htl : TrL (V.css true (u.items.set i x)).flatten (u1 ++ (x.vals kx ix ++ u3)) (.grp [ob, .grp [.grp [okx, oix], oa]]) := by
    rw [set_parts hlt, V.css_append, List.flatten_append, V.css, List.flatten_cons]
    exact t1.append (hx.trL.append t3 (.refl _)) (.refl _)
  have hIt : Tr (.sl true false eV (V.css true (u.items.set i x))) iv (.grp [.arr iv eV (cs.set i (x.raw kx ix)), .grp [ob, .grp [.grp [okx, oix], oa]]]) :=
    items_tr hflat (by simp [hcl]) h5' (by rw [List.all_append, List.all_append, a1, hx.ones, a3]; rfl) (by simpa using hits) htl
  have hV : VTr (u.setAt i x) kv iv ok (.grp [.arr iv eV (cs.set i (x.raw kx ix)), .grp [ob, .grp [.grp [okx, oix], oa]]]) := ⟨hk1, hi1, hks, hIt⟩
  obtain ⟨kw, iw, okw, oiw, g1, g2⟩ := hL _ _ _ _ _ (V.setAt_wf huw hxw) hV
  refine ⟨kw, iw, okw, oiw, g1, Reown.trans ?_ g2⟩
  have hfold : Reown [.box b2 ((cs.take i).flatten ++ x.raw kx ix ++ ((cs.drop (i + 1)).flatten ++ sp.map AV.c))] [.arr iv eV (cs.set i (x.raw kx ix))] := by
    have he : (cs.take i).flatten ++ x.raw kx ix ++ ((cs.drop (i + 1)).flatten ++ sp.map AV.c) = (cs.set i (x.raw kx ix)).flatten ++ sp.map AV.c := by
      rw [set_parts hclt, List.flatten_append, List.flatten_cons]; simp
    have hl2 : (cs.set i (x.raw kx ix)).flatten.length = cs.flatten.length := by
      rw [flatten_length (sz := 5) _ h5', flatten_length (sz := 5) _ h5, List.length_set]
    rw [he]
    refine Reown.fold (cap := cap) (by rw [List.length_set]; exact hiv) (by rw [List.length_set]; exact hcap) h5' ?_ (List.take_left)
    rw [List.length_append, List.length_map, hl2]; exact hsz
  refine (Reown.hd (l := [okx, oix, .grp [.box b (pre ++ u.raw kv iv ++ post), ok, ob, oa, ctx]]) hfold).trans ?_
  refine ⟨fun y => by simp only [fps_cons, fps_nil, fp_grp, List.count_append, List.count_nil, List.singleton_append, V.raw, V.setAt, V.kind, V.bits, V.text]; simp only [Own.fp]; omega, fun w A h => ?_⟩
  simp only [List.forall_mem_cons, List.singleton_append, ok_grp, List.not_mem_nil, false_implies, implies_true, and_true] at h ⊢
  obtain ⟨q1, q2, q3, q4, q5, q6, q7, q8⟩ := h
  exact ⟨q4, q5, ⟨q1, q6, ⟨q2, q3⟩, q7⟩, q8⟩
structure At where
  b : Nat
  off : Nat
  pre : List AV
  post : List AV
  u : V
  kv : Value
  iv : Value
  ok : Own
  oi : Own
  ctx : Own
  plug : V → V
structure At.Ok (z : At) (b0 : Nat) : Prop where
  off : z.pre.length = z.off
  tr : VTr z.u z.kv z.iv z.ok z.oi
  law : Law z.b z.pre z.post z.ctx b0 z.plug
  fine : z.u.Fine
  wf : z.u.wf
def holeC (z : At) (u : V) (kv iv : Value) : List AV := z.pre ++ u.raw kv iv ++ z.post
theorem holeC_eq (z : At) (u : V) (kv iv : Value) : holeC z u kv iv = z.pre ++ (u.raw kv iv ++ z.post) := List.append_assoc _ _ _
theorem hole_load {z : At} {u : V} {kv iv : Value} (h : z.pre.length = z.off) : ((holeC z u kv iv).drop z.off).take 5 = u.raw kv iv := by
  rw [holeC_eq, ← h, List.drop_left]
  exact List.take_left' rfl
theorem hole_at {z : At} {u : V} {kv iv : Value} (h : z.pre.length = z.off) (k : Nat) (hk : k < 5) : (holeC z u kv iv)[z.off + k]? = (u.raw kv iv)[k]? := by
  rw [holeC_eq, List.getElem?_append_right (by omega), List.getElem?_append_left (by rw [show (u.raw kv iv).length = 5 from rfl]; omega)]
  congr 1; omega
theorem splice_mid {α : Type} {a l c ys : List α} {k : Nat} (h : k + ys.length ≤ l.length) : splice (a ++ (l ++ c)) (a.length + k) ys = a ++ (splice l k ys ++ c) := by
  unfold splice
  rw [List.take_append, List.take_of_length_le (by omega), Nat.add_sub_cancel_left, List.take_append_of_le_length (by omega), Nat.add_assoc, List.drop_append, List.drop_eq_nil_of_le (by omega), List.nil_append, Nat.add_sub_cancel_left, List.drop_append_of_le_length h]
  simp
theorem hole_set {z : At} {u : V} {kv iv : Value} (h : z.pre.length = z.off) {k : Nat} {x : AV} (hk : k < 5) : splice (holeC z u kv iv) (z.off + k) [x] = z.pre ++ (splice (u.raw kv iv) k [x] ++ z.post) := by
  rw [holeC_eq, ← h, splice_mid (by rw [show (u.raw kv iv).length = 5 from rfl]; simp; omega)]
theorem hole_put {z : At} {u x : V} {kv iv kx ix : Value} (h : z.pre.length = z.off) : splice (holeC z u kv iv) z.off (x.raw kx ix) = holeC z x kx ix := by
  have := splice_mid (a := z.pre) (l := u.raw kv iv) (c := z.post) (ys := x.raw kx ix) (k := 0) (by simp [V.raw])
  rw [Nat.add_zero, h] at this
  rw [holeC_eq, this, holeC_eq]
  rfl
theorem hole_len (z : At) (u : V) (kv iv : Value) (h : z.pre.length = z.off) : (holeC z u kv iv).length = z.off + 5 + z.post.length := by
  rw [holeC_eq, List.length_append, List.length_append, show (u.raw kv iv).length = 5 from rfl]; omega
section
variable {P : Program} {E : Ent} {st : St} {t et ty : TypeId} {pos : String} {af : Array Edge} {dd : Option Tmp} {gd : Option (Nat × Bool)} {x y : Operand} {g : Bool} {n B : Nat}
theorem QW.index_c {b off len cap m : Nat} {k : IntKind} {i : Int} (hU : P.underlying t = some (.slice et)) (hT : tySz P et = some (g, n, B)) (hx : Ev E st x (.c (sv b off len cap))) (hi : Ev E st y (.c (.int k i))) (hm : i = (m : Int)) (hlt : m < len) :
    QW P E st ⟨dd, .indexAddr t x y, ty, pos, af, gd⟩ (.c (.pointer (some ⟨b, off + m * n, none⟩))) := .pure fun A a w hs => by
  subst hm
  refine ⟨.pointer (some ⟨b, off + m * n, none⟩), ?_, .c _⟩
  simp only [execOp, hx.eq hs, hi.eq hs, Instr.indexAt, asIntOf, Sem.run_bind, Sem.run_pure, Result.andThen_ok, run_underlying _ hU]
  rw [if_pos (by omega)]
  simp [run_sizeOf hT, add_at]
end
end Go.Proofs.YtmccnmahegbmpaaGreat.J

/- Guards that are known; arrays behind a pointer. -/
namespace Go.Proofs.YtmccnmahegbmpaaGreat.J
open Go Go.RowKit
section
variable {P : Program} {E : Ent} {Q : Exit → St → Prop} {n : Nat} {env : List (Nat × AV)} {own : List Own} {F : List (Value × AV)} {D : List Deferred} {ops : Array Oper} {rest : List Oper}
variable {ty : TypeId} {pos : String} {af : Array Edge} {d : Option Nat} {op : Op}
theorem SatA.yield {A : Foot} {a : Act} {w : World} {st : St} (hA : SatA E A st a w) {j s : Nat} {g : Bool} (hs : (ops[j]?).bind (·.dst) = some s) (hl : lk st.env s = some (.c (.bool g))) : yielded ops a.tmps j = some g := by
  have h1 := (hA.env s _ hl).eq
  unfold yielded
  rw [hs]
  simp only [Option.bind_some]
  rw [Array.getD_eq_getD_getElem?] at h1
  cases h2 : a.tmps[s]? with
  | none => rw [h2] at h1; simp [undef] at h1
  | some v => rw [h2] at h1; simp at h1; subst h1; rfl
theorem JL.ungd {j s : Nat} {want g : Bool} (hs : (ops[j]?).bind (·.dst) = some s) (hl : lk env s = some (.c (.bool g))) (hw : g = want) (h : JL P E ops (⟨d, op, ty, pos, af, none⟩ :: rest) ⟨n, env, own, F, D⟩ Q) :
    JL P E ops (⟨d, op, ty, pos, af, some (j, want)⟩ :: rest) ⟨n, env, own, F, D⟩ Q := fun a w ⟨A, hA⟩ => by
  have hy := hA.yield hs hl
  have h1 := h a w ⟨A, hA⟩
  unfold wpListIn at h1 ⊢
  rw [if_pos (by simp [Region.wanted])] at h1
  rw [if_pos (by simp [Region.wanted, hy, hw])]
  exact h1
theorem JL.gskip {d j s : Nat} {want g : Bool} (hs : (ops[j]?).bind (·.dst) = some s) (hn : Nat.blt d n = true) (hl : lk env s = some (.c (.bool g))) (hw : (g == want) = false)
    (h : JL P E ops rest ⟨n, (d, .wh false (.c .nilIface)) :: env, own, F, D⟩ Q) : JL P E ops (⟨some d, op, ty, pos, af, some (j, want)⟩ :: rest) ⟨n, env, own, F, D⟩ Q := fun a w ⟨A, hA⟩ => by
  have hy := hA.yield hs hl
  unfold wpListIn
  rw [if_neg (by simp only [Region.wanted, hy]; simpa using hw)]
  exact ⟨fun _ _ => trivial, h _ _ ⟨A, hA.put (blt_lt hn) (.wh _ _ _ (fun h => by cases h) fun _ => rfl)⟩⟩
variable {st : St} {x y t et s0 : TypeId}
theorem QW.pick_andT {b : Bool} {x y : Operand} (hx : Ev E st x (.c (.bool true))) (hy : Ev E st y (.c (.bool b))) : QW P E st ⟨d, .pick x y (.const (.bool false)), ty, pos, af, none⟩ (.c (.bool b)) := .pure fun A a w hs =>
  ⟨_, by simp only [execOp, hx.eq hs, asBool, Sem.run_bind, Sem.run_pure, Result.andThen_ok]; rfl, by rw [if_pos trivial, hy.eq hs]; exact .c _⟩
theorem QW.pick_andF {x y : Operand} (hx : Ev E st x (.c (.bool false))) : QW P E st ⟨d, .pick x y (.const (.bool false)), ty, pos, af, none⟩ (.c (.bool false)) := .pure fun A a w hs =>
  ⟨_, by simp only [execOp, hx.eq hs, asBool, Sem.run_bind, Sem.run_pure, Result.andThen_ok]; rfl, by simp [Act.eval]; exact .c _⟩
theorem QW.pick_orF {b : Bool} {x y : Operand} (hx : Ev E st x (.c (.bool false))) (hy : Ev E st y (.c (.bool b))) : QW P E st ⟨d, .pick x (.const (.bool true)) y, ty, pos, af, none⟩ (.c (.bool b)) := .pure fun A a w hs =>
  ⟨_, by simp only [execOp, hx.eq hs, asBool, Sem.run_bind, Sem.run_pure, Result.andThen_ok]; rfl, by simp only [Bool.false_eq_true, if_false]; rw [hy.eq hs]; exact .c _⟩
theorem QW.pick_orT {x y : Operand} (hx : Ev E st x (.c (.bool true))) : QW P E st ⟨d, .pick x (.const (.bool true)) y, ty, pos, af, none⟩ (.c (.bool true)) := .pure fun A a w hs =>
  ⟨_, by simp only [execOp, hx.eq hs, asBool, Sem.run_bind, Sem.run_pure, Result.andThen_ok]; rfl, by simp [Act.eval]; exact .c _⟩
variable {g : Bool} {sz B : Nat} {k : IntKind} {i : Int} {x y lo : Operand} {gd : Option (Nat × Bool)}
theorem QW.index_p {b off ln m off' : Nat} (hU : P.underlying t = some (.array ln et)) (hT : tySz P et = some (g, sz, B)) (hx : Ev E st x (.c (.pointer (some ⟨b, off, none⟩)))) (hi : Ev E st y (.c (.int k i))) (hm : i = (m : Int)) (hlt : m < ln) (ho : off + m * sz = off') :
    QW P E st ⟨d, .indexAddr t x y, ty, pos, af, gd⟩ (.c (.pointer (some ⟨b, off', none⟩))) := .pure fun A a w hs => by
  subst hm ho
  refine ⟨.pointer (some ⟨b, off + m * sz, none⟩), ?_, .c _⟩
  simp only [execOp, hx.eq hs, hi.eq hs, Instr.indexAt, asIntOf, Instr.sureAddr, Sem.run_bind, Sem.run_pure, Result.andThen_ok, run_underlying _ hU]
  rw [if_pos (by omega)]
  simp [run_sizeOf hT, add_at]
theorem QW.slice_pL {b off ln l off' : Nat} (hU : P.underlying t = some (.array ln et)) (hT : tySz P et = some (g, sz, B)) (hx : Ev E st x (.c (.pointer (some ⟨b, off, none⟩)))) (hlo : Ev E st lo (.c (.int k i))) (hi : i = (l : Int)) (hl : l ≤ ln) (ho : (if ln = l then off else off + l * sz) = off') :
    QW P E st ⟨d, .slice t x (some lo) none none, ty, pos, af, gd⟩ (.c (sv b off' (ln - l) (ln - l))) := .pure fun A a w hs => by
  refine ⟨sv b off' (ln - l) (ln - l), ?_, .c _⟩
  subst ho
  have e : (Instr.sliceAt t (.pointer (some ⟨b, off, none⟩)) (some (.int k (l : Int))) none none).run P w = .ok (sv b (if ln = l then off else off + l * sz) (ln - l) (ln - l)) w := by
    simp only [Instr.sliceAt, Instr.sureAddr, Instr.sliceBounds, Sem.run_bind, Sem.run_pure, Result.andThen_ok, run_underlying _ hU, run_sizeOf hT, run_bound hl]
    split
    · rfl
    · rw [add_at]
  simp only [execOp, hx.eq hs, Option.map_some, Option.map_none, EvBnd hlo hi hs, Sem.run_bind, e, Result.andThen_ok, Sem.run_pure]
theorem QW.box_str (j : Nat) {b off len cap : Nat} {ys : List AV} {l : List UInt8} {e8 : TypeId} (hS : P.underlying s0 = some (.slice e8)) (hT : P.underlying t = some .string) (hE : P.underlying e8 = some (.int .u8)) (hx : Ev E st x (.c (sv b off len cap)))
    (ho : st.own[j]? = some (.box b ys)) (hy : (ys.drop off).take len = l.map fun b => .c (.int .u8 (b.toNat : Int))) (hl : l.length = len) : QW P E st ⟨d, .convert s0 t x, ty, pos, af, gd⟩ (.c (str l)) := .pure fun A a w hs => by
  obtain ⟨us, t', hb, _, hc⟩ := hs.box j ho
  have hc2 := (hc.drop off).take len
  rw [Nat.zero_add, hy] at hc2
  refine ⟨str l, ?_, .c _⟩
  have hrun : (Conv.bytesToString (sv b off len cap)).run P w = .ok (str l) w := by rw [← hl]; exact run_bytes hb hc2 cap
  simp only [execOp, hx.eq hs, Go.convert, Sem.run_bind, run_underlying _ hS, run_underlying _ hT, Result.andThen_ok]
  simp only [run_underlying _ hE, Result.andThen_ok, hrun, Sem.run_bind, Sem.run_pure]
end
end Go.Proofs.YtmccnmahegbmpaaGreat.J

/- Walks: the digits of a whole number. -/
namespace Go.Proofs.YtmccnmahegbmpaaGreat.J
open Go Go.RowKit
set_option maxRecDepth 10000
set_option maxHeartbeats 4000000
def octC (d : Str) : List AV := d.map fun b => .c (.int .u8 (b.toNat : Int))
def dgB (d : Str) : List AV := List.replicate (20 - d.length) (.c (.int .u8 0)) ++ octC d
theorem octC_len (d : Str) : (octC d).length = d.length := by simp [octC]
theorem dgB_len {d : Str} (h : d.length ≤ 20) : (dgB d).length = 20 := by simp [dgB, octC_len]; omega
theorem dgB_step {d : Str} (c : UInt8) (h : d.length < 20) : splice (dgB d) (19 - d.length) [.c (.int .u8 (c.toNat : Int))] = dgB (c :: d) := by
  obtain ⟨k, hk⟩ : ∃ k, 20 - d.length = k + 1 := ⟨19 - d.length, by omega⟩
  have h1 : 19 - d.length = k := by omega
  unfold dgB splice
  rw [hk, h1, List.length_singleton, List.take_append_of_le_length (by simp), List.take_replicate, Nat.min_eq_left (by omega), List.drop_append_of_le_length (by simp), List.drop_replicate, Nat.sub_self, List.length_cons, show 20 - (d.length + 1) = k by omega]
  simp [octC]
theorem dgB_drop {d : Str} (h : d.length ≤ 20) : ((dgB d).drop (20 - d.length)).take d.length = d.map fun b => .c (.int .u8 (b.toNat : Int)) := by
  unfold dgB
  rw [List.drop_append_of_le_length (by simp), List.drop_replicate, Nat.sub_self, List.replicate_zero, List.nil_append]
  exact List.take_of_length_le (by simp [octC])
theorem natD_step {n m : Nat} {d : Str} (h : natD n = (if m = 0 ∧ d ≠ [] then [] else natD m) ++ d) (hc : 0 < m ∨ d = []) : natD n = (if m / 10 = 0 ∧ (UInt8.ofNat (48 + m % 10) :: d) ≠ [] then [] else natD (m / 10)) ++ UInt8.ofNat (48 + m % 10) :: d := by
  rw [if_neg (fun h => hc.elim (fun h1 => by omega) h.2)] at h
  rw [h]
  by_cases hm : m < 10
  · rw [if_pos ⟨by omega, by simp⟩, natD, if_pos hm, show m % 10 = m by omega]; rfl
  · rw [if_neg (fun h => by omega), natD, if_neg hm, List.append_assoc]; rfl
theorem digC {m : Nat} : ((UInt8.ofNat (48 + m % 10)).toNat : Int) = 48 + ((m % 10 : Nat) : Int) := by
  rw [UInt8.toNat_ofNat', Nat.mod_eq_of_lt (by omega)]; omega
def digE (b : Nat) : AV := .tup [.c (str (if intE b = 0 then intD (intV b) else [])), .c (.int .i64 (if intE b = 0 then 0 else 7))]
theorem digits_ok (b : Nat) (hb : b < 2 ^ 64) : Fn Tryz.prog 115 [.c (.int .u64 (b : Int))] (digE b) := by
  refine AC.of_J Tryz.func115 rfl Tryz.ntmps115 rfl fun w0 A0 => ?_
  refine Zs (Zq rfl (QW.assign .const) (Zq rfl (QW.assign .const) (Zn (Zs (Zq rfl (QW.move (.tmp rfl)) (Zq rfl (QW.call gofn125 (.cons (.tmp rfl) .nil) (int_ok _ (by assumption))) ?_))))))
  refine Zq rfl (QW.move (.tmp rfl)) (Zq rfl (QW.extract (.tmp rfl) rfl) (Zq rfl (QW.extract (.tmp rfl) rfl) (Zq rfl (QW.assign (.tmp rfl)) (Zq rfl (QW.assign (.tmp rfl)) (Zn (J.seq (Zs (Zq rfl (QW.move (.tmp rfl)) (Zq rfl (QW.neq (.tmp rfl) .const) ?_)))))))))
  refine Zn ?_
  refine J.cond (.tmp rfl) (fun c1 => ?_) (fun c1 => ?_)
  · skip
    have hne : ¬ intE b = 0 := by simpa using c1
    exact Zs (Zq rfl (QW.assign .const) (Zq rfl (QW.assign .const) (Zn (J.ret (thenQ.r (Zr [] (RetEv.two rfl (REv.tmp rfl lr) (REv.tmp rfl lr)) rfl ⟨by rw [digE, if_neg hne, if_neg hne], rfl⟩))))))
  have he0 : intE b = 0 := by simpa using c1
  have hbd := intV_bounds b he0
  obtain ⟨v, hv⟩ : ∃ v, intV b = v := ⟨_, rfl⟩
  rw [hv] at hbd
  obtain ⟨N, hN⟩ : ∃ N, v.natAbs = N := ⟨_, rfl⟩
  have hN16 : N < 10000000000000000 := by omega
  refine Zk (Zs (JL.alloc z182 rfl rfl fun b6 => Zn (Zs (Zq rfl (QW.assign .const) (Zn (J.seq (Zs (Zq rfl (QW.move (.tmp rfl)) ?_))))))))
  refine Zq rfl (QW.move (.tmp rfl)) (Zq rfl (QW.neg (.tmp rfl) (c := -v) (by rw [hv, Int.zero_sub]; exact w64 (by omega))) ?_)
  refine Zq rfl ((QW.max2 (.tmp rfl) (.tmp rfl)).conv (show _ = AV.c (.int .i64 (N : Int)) by rw [hv]; congr 2; omega)) ?_
  refine Zq rfl (QW.assign (.tmp rfl)) (Zn (J.block (J.loopK (ι := Str × Nat) [2, 3, 4, 6] (fun ⟨d, m⟩ => [(7, .c (.int .i64 ((20 - d.length : Nat) : Int))), (8, .c (.int .i64 (m : Int)))]) (fun ⟨d, m⟩ oo => List.set oo 0 (.box b6 (dgB d))) (fun ⟨d, m⟩ => m ≤ N ∧ d.length ≤ 16 ∧ m < 10 ^ (16 - d.length) ∧ natD N = (if m = 0 ∧ d ≠ [] then [] else natD m) ++ d) (fun ⟨d, m⟩ => m + (if d = [] then 1 else 0)) ⟨[], N⟩ (⟨Nat.le_refl _, by simp, by simpa using hN16, by simp⟩) (Wk.re (.cons rfl lr (.cons rfl lr (.cons rfl lr (.cons rfl lr (.cons rfl lr (.cons rfl lr .nil)))))) (Reown.refl _) (fun _ h => by first | exact h | simp [h])) ?_)))
  intro ⟨d, m⟩ ⟨hmN, hd16, hm10, hnd⟩
  refine J.conv (by (try simp only [nl, stepsO, valO, nthO, curO, mrg, AV.cellsOf, splice_zero, splice_succ, Nat.reduceAdd]); rfl) ?_
  refine J.seq (Zs (Zq rfl (QW.move (.tmp rfl)) (Zq rfl (QW.gtr (.tmp rfl) .const) (Zq rfl (QW.move (.tmp rfl)) (Zg rfl (fun hg => (QW.move (.tmp rfl))) (Zg rfl (fun hg => (QW.eql (.when rfl hg) .const)) (Zq rfl (QW.pick_or (.tmp rfl) (.tmp rfl)) (Zn ?_))))))))
  refine J.cond (.tmp rfl) (fun c2 => ?_) (fun c2 => ?_)
  · skip
    have hc : 0 < m ∨ d = [] := by
      simp at c2
      exact c2.imp (fun h => h) (fun h => List.eq_nil_of_length_eq_zero (by omega))
    have hd15 : d.length ≤ 15 := by
      rcases hc with hc | hc
      · exact Nat.lt_succ_iff.1 (Nat.lt_of_le_of_ne hd16 fun h => by rw [h] at hm10; simp at hm10; omega)
      · subst hc; exact Nat.zero_le _
    obtain ⟨q, hq⟩ : ∃ q, 16 - d.length = q + 1 := ⟨15 - d.length, by omega⟩
    rw [hq, Nat.pow_succ] at hm10
    refine Zk (J.seq (J.block (Zs (Zq rfl (QW.move (.tmp rfl)) (Zq rfl (QW.sub (.tmp rfl) .const (c := ((19 - d.length : Nat) : Int)) (w64n (by omega) (by omega))) (Zq rfl (QW.assign (.tmp rfl)) (Zn (J.region_lit (Zq rfl (QW.move (.tmp rfl)) ?_)))))))))
    refine Zq rfl (QW.move (.tmp rfl)) (Zq rfl (QW.rem (.tmp rfl) .const (by decide) (c := ((m % 10 : Nat) : Int)) (Int.ofNat_tmod m 10).symm) ?_)
    refine Zq rfl (QW.conv_int us3 iu5 (.tmp rfl) (c := ((m % 10 : Nat) : Int)) (wu8 (by omega))) (Zq rfl (QW.add .const (.tmp rfl) (c := ((UInt8.ofNat (48 + m % 10)).toNat : Int)) (by rw [digC]; exact wu8 (by omega))) ?_)
    refine Zq rfl (QW.index_p (b := b6) (off := 0) (ln := 20) (et := 5) (off' := 19 - d.length) (m := 19 - d.length) (by kernel_rfl) ty5 (.tmp rfl) (.tmp rfl) rfl (by omega) (by simp)) ?_
    refine JL.store_box 0 ty5 (.tmp rfl) rfl (.tmp rfl) rfl rfl (by rw [dgB_len (by omega)]; exact Nat.ble_eq_true_of_le (by omega)) (dgB_step (UInt8.ofNat (48 + m % 10)) (by omega)) rfl ?_
    refine JL.nil (blkQ.n (thenQ.n (J.region_lit (Zq rfl (QW.move (.tmp rfl)) (Zq rfl (QW.quo (.tmp rfl) .const (by decide) (c := ((m / 10 : Nat) : Int)) (by rw [show (m : Int).tdiv 10 = ((m / 10 : Nat) : Int) from (Int.ofNat_tdiv m 10).symm]; exact w64 (by omega))) ?_)))))
    refine Zq rfl (QW.assign (.tmp rfl)) (Zn ?_)
    exact ⟨⟨UInt8.ofNat (48 + m % 10) :: d, m / 10⟩, ⟨by show m / 10 ≤ N; omega, by simp; omega, by rw [List.length_cons, show 16 - (d.length + 1) = q by omega]; exact Nat.div_lt_of_lt_mul (by omega), natD_step hnd hc⟩, hc.elim (fun h => by have := Nat.div_lt_self h (by decide : 1 < 10); show m / 10 + (if UInt8.ofNat (48 + m % 10) :: d = [] then 1 else 0) < m + (if d = [] then 1 else 0); rw [if_neg (by simp)]; omega) (fun h => by subst h; show m / 10 + (if UInt8.ofNat (48 + m % 10) :: ([] : Str) = [] then 1 else 0) < m + 1; rw [if_neg (by simp)]; omega), Wk.re (.cons rfl ((by rw [List.length_cons, show 20 - (d.length + 1) = 19 - d.length by omega]; exact .refl _)) (.cons rfl lr (.cons rfl lr (.cons rfl lr (.cons rfl lr (.cons rfl lr .nil)))))) (Reown.refl _) (fun _ h => by first | exact h | simp [h])⟩
  have hz : m = 0 ∧ d ≠ [] := by
    simp at c2
    exact ⟨by omega, fun h => by subst h; simp at c2⟩
  rw [if_pos hz, List.nil_append] at hnd
  have hd0 := hz.2
  have hd1 : 1 ≤ d.length := by cases d with | nil => exact absurd rfl hd0 | cons x r => simp
  refine J.exit (thenQ.x (thenQ.x (blkQ.hit (thenQ.n (J.seq (Zs (Zq rfl (QW.move (.tmp rfl)) (Zq rfl (QW.lss (.tmp rfl) .const) (Zn ?_)))))))))
  refine J.cond (.tmp rfl) (fun c3 => ?_) (fun c3 => ?_)
  · skip
    have hneg : v < 0 := by rw [← hv]; simpa using c3
    refine Zs (Zq rfl (QW.move (.tmp rfl)) (Zq rfl (QW.sub (.tmp rfl) .const (c := ((19 - d.length : Nat) : Int)) (w64n (by omega) (by omega))) (Zq rfl (QW.assign (.tmp rfl)) (Zn (J.region_lit (Zq rfl (QW.move (.tmp rfl)) (Zq rfl (QW.index_p (b := b6) (off := 0) (ln := 20) (et := 5) (off' := 19 - d.length) (m := 19 - d.length) (by kernel_rfl) ty5 (.tmp rfl) (.tmp rfl) rfl (by omega) (by simp)) ?_)))))))
    refine JL.store_box 0 ty5 (.tmp rfl) rfl .const rfl rfl (by rw [dgB_len (by omega)]; exact Nat.ble_eq_true_of_le (by omega)) (dgB_step 45 (by omega)) rfl ?_
    refine Zn (Zs (Zq rfl (QW.move (.tmp rfl)) (Zq rfl (by exact QW.slice_pL (b := b6) (off := 0) (ln := 20) (et := 5) (off' := 19 - d.length) (l := 19 - d.length) (by kernel_rfl) ty5 (.tmp rfl) (.tmp rfl) rfl (by omega) (by split <;> omega)) ?_)))
    refine Zq rfl (by exact QW.box_str 0 (l := 45 :: d) (e8 := 5) (by kernel_rfl) (by kernel_rfl) (by kernel_rfl) (.tmp rfl) rfl (by rw [show 20 - (19 - d.length) = (45 :: d).length by rw [List.length_cons]; omega, show 19 - d.length = 20 - (45 :: d).length by rw [List.length_cons]; omega]; exact dgB_drop (by rw [List.length_cons]; omega)) (by (simp; omega))) ?_
    exact Zq rfl (QW.assign (.tmp rfl)) (Zq rfl (QW.assign .const) (Zn (J.ret (Zr [.k] (RetEv.two rfl (REv.tmp rfl lr) (REv.tmp rfl lr)) rfl ⟨by rw [digE, if_pos he0, if_pos he0, hv, intD, if_pos hneg, hN, hnd], rfl⟩))))
  have hpos : ¬ v < 0 := by rw [← hv]; simpa using c3
  refine Zk (Zs (Zq rfl (QW.move (.tmp rfl)) (Zq rfl (by exact QW.slice_pL (b := b6) (off := 0) (ln := 20) (et := 5) (off' := 20 - d.length) (l := 20 - d.length) (by kernel_rfl) ty5 (.tmp rfl) (.tmp rfl) rfl (by omega) (by split <;> omega)) ?_)))
  refine Zq rfl (by exact QW.box_str 0 (l := d) (e8 := 5) (by kernel_rfl) (by kernel_rfl) (by kernel_rfl) (.tmp rfl) rfl (by rw [show 20 - (20 - d.length) = d.length by omega]; exact dgB_drop (by omega)) (by omega)) ?_
  exact Zq rfl (QW.assign (.tmp rfl)) (Zq rfl (QW.assign .const) (Zn (J.ret (Zr [.k] (RetEv.two rfl (REv.tmp rfl lr) (REv.tmp rfl lr)) rfl ⟨by rw [digE, if_pos he0, if_pos he0, hv, intD, if_neg hpos, hN, hnd], rfl⟩))))
end Go.Proofs.YtmccnmahegbmpaaGreat.J

/- Events as plain data: a name and a value; lists of them. -/
namespace Go.Proofs.YtmccnmahegbmpaaGreat.J
open Go Go.RowKit
structure EvT where
  name : Str
  arg : V
  deriving DecidableEq
def eEv : ETy := ⟨6, 96⟩
def EvT.cs (fr : Bool) (e : EvT) : List AV := .c (str e.name) :: e.arg.cs fr
def EvT.css (fr : Bool) (l : List EvT) : List (List AV) := l.map (EvT.cs fr)
theorem EvT.cs_length (fr : Bool) (e : EvT) : (e.cs fr).length = 6 := by simp [EvT.cs, V.cs_length]
theorem EvT.css_length (fr : Bool) (l : List EvT) : (EvT.css fr l).length = l.length := by simp [EvT.css]
theorem EvT.css_get (fr : Bool) {l : List EvT} {i : Nat} {v : EvT} (h : l[i]? = some v) : (EvT.css fr l)[i]? = some (v.cs fr) := by simp [EvT.css, h]
theorem EvT.css_getE (fr : Bool) {l : List EvT} {i : Nat} (h : i < l.length) : (EvT.css fr l)[i]? = some ((l[i]).cs fr) := EvT.css_get fr (List.getElem?_eq_getElem h)
theorem EvT.css_append (fr : Bool) (a b : List EvT) : EvT.css fr (a ++ b) = EvT.css fr a ++ EvT.css fr b := by simp [EvT.css]
theorem EvT.css_sz (fr : Bool) (l : List EvT) : ∀ x ∈ EvT.css fr l, x.length = eEv.sz := by
  intro x hx
  obtain ⟨v, _, rfl⟩ := List.mem_map.1 hx
  exact EvT.cs_length fr v
theorem EvT.cs_le {F : List (Value × AV)} (fr fr' : Bool) (hf : fr' = true → fr = true) (e : EvT) : LeL F (e.cs fr) (e.cs fr') := .cons (.refl _) (V.cs_le fr fr' hf _)
theorem EvT.css_le {F : List (Value × AV)} (fr fr' : Bool) (hf : fr' = true → fr = true) : ∀ l : List EvT, LeL F (EvT.css fr l).flatten (EvT.css fr' l).flatten
  | [] => .nil
  | v :: r => by
    simp only [EvT.css, List.map_cons, List.flatten_cons]
    exact LeL.append (v.cs_le fr fr' hf) (EvT.css_le fr fr' hf r)
theorem events_le {F : List (Value × AV)} (fr fr' clip : Bool) (hf : fr' = true → fr = true) (l : List EvT) : Le F (.sl fr clip eEv (EvT.css fr l)) (.sl fr' false eEv (EvT.css fr' l)) :=
  .slL hf (by rw [EvT.css_length, EvT.css_length]) (EvT.css_sz fr' l) (EvT.css_le fr fr' hf l)
structure EvT.wf (e : EvT) : Prop where
  name : e.name.length ≤ reach
  arg : e.arg.wf
def EvT.wfs (l : List EvT) : Prop := l.length * 96 ≤ reach ∧ ∀ e ∈ l, e.wf
/-! ### the page -/
def nameOk (s : Str) : Bool := keyOk s
end Go.Proofs.YtmccnmahegbmpaaGreat.J

/- Items (effects on their way) and boxes of them, as plain data. -/
namespace Go.Proofs.YtmccnmahegbmpaaGreat.J
open Go Go.RowKit
/-! ### the page -/
end Go.Proofs.YtmccnmahegbmpaaGreat.J

