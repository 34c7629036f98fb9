/- Texts of this proof, laid together. -/
import Derived.Test.YtjhonjdhanlbkaaGreatX2REvalOwn
set_option linter.unusedVariables false
set_option linter.unusedSimpArgs false
/- Short forms of the steps of a walk. -/
namespace Go.Proofs.YtjhonjdhanlbkaaGreat.J
open Go Go.RowKit
section
variable {P : Program} {E : Ent} {Q : Exit → St → Prop} {n : Nat} {env : List (Nat × AV)} {own : List Own} {F : List (Value × AV)} {D : List Deferred} {ops : Array Oper} {rest : List Oper} {o : Oper} {d : Nat} {x : AV} {S : List Nat} {Φ : List Flt} {st : St}
theorem Zq (h0 : (o.guard, o.dst, Nat.blt d n) = (none, some d, true)) (hq : QW P E ⟨n, env, own, F, D⟩ o x) (h : JL P E ops rest ⟨n, (d, x) :: env, own, F, D⟩ Q) : JL P E ops (o :: rest) ⟨n, env, own, F, D⟩ Q := by
  simp only [Prod.mk.injEq] at h0
  obtain ⟨h1, h2, h3⟩ := h0
  exact .q h1 h2 h3 hq h
theorem Zg {j s : Nat} {want g : Bool} (h0 : (o.guard, o.dst, Nat.blt d n, (ops[j]?).bind (·.dst), lk env s) = (some (j, want), some d, true, some s, some (.c (.bool g)))) (hq : (g == want) = true → QW P E ⟨n, env, own, F, D⟩ o x)
    (h : JL P E ops rest ⟨n, (d, .wh (g == want) x) :: env, own, F, D⟩ Q) : JL P E ops (o :: rest) ⟨n, env, own, F, D⟩ Q := by
  simp only [Prod.mk.injEq] at h0
  obtain ⟨h1, h2, h3, h4, h5⟩ := h0
  exact .g h1 h2 h3 h4 h5 hq h
theorem Zf (i : Nat) (sl : List Nat) (h0 : (ops[i]?, o.dst, Nat.blt d n, memB i S, memB i (Φ.map (·.i)), Φ.all fun ψ => !Nat.beq ψ.d d, lk env d, chkF o sl Φ, o.guard) = (some o, some d, true, false, false, true, none, true, none))
    (hs : ∀ own', QW P E ⟨n, selF sl Φ ++ env, own', F, D⟩ o x) (h : JX P E ops S (⟨i, d, .inl x, true, none⟩ :: Φ) ⟨n, env, own, F, D⟩ Q) : JX P E ops S Φ ⟨n, env, own, F, D⟩ Q := by
  simp only [Prod.mk.injEq] at h0
  obtain ⟨h1, h2, h3, h4, h5, h6, h7, h8, h9⟩ := h0
  exact .f i sl h1 h2 h3 h4 h5 h6 h7 h8 (fun w => .q h9 (hs w)) h
theorem Zo {en : Own} (i : Nat) (k : Nat) (sl : List Nat) (h0 : (ops[i]?, o.dst, Nat.blt d n, memB i S, memB i (Φ.map (·.i)), Φ.all fun ψ => !Nat.beq ψ.d d, lk env d, chkF o sl Φ, own[k]?, o.guard) = (some o, some d, true, false, false, true, none, true, some en, none))
    (hs : ∀ own', own'[k]? = some en → QW P E ⟨n, selF sl Φ ++ env, own', F, D⟩ o x) (h : JX P E ops S (⟨i, d, .inl x, true, some (k, en)⟩ :: Φ) ⟨n, env, own, F, D⟩ Q) : JX P E ops S Φ ⟨n, env, own, F, D⟩ Q := by
  simp only [Prod.mk.injEq] at h0
  obtain ⟨h1, h2, h3, h4, h5, h6, h7, h8, h9, h10⟩ := h0
  exact .o i k sl h1 h2 h3 h4 h5 h6 h7 h8 h9 (fun w hw => .q h10 (hs w hw)) h
theorem Zn {K : St → Prop} (h : K st) : JL P E ops [] st (thenQ K Q) := .nil h
theorem Zs {id : Nat} {l : List Oper} {y : Code} (h : JL P E l.toArray l st (thenQ (fun s => J P E y s Q) Q)) : J P E (.seq (.region id l.toArray false) y) st Q := .seq (.region_lit h)
theorem Zk {K : St → Prop} (h : K st) : J P E .skip st (thenQ K Q) := .skip h
theorem Zr {fn : Func} {R : Res → List Own → Prop} {s : St} {x : AV} (ms : List Cd) (h1 : RetEv P fn s x) (h2 : s.dfs = []) (h3 : R (.ret x) (selP ms s.own)) : retQ P fn R .ret s := ⟨_, selP ms _, _, h1, h2, sel_perm ms _, h3⟩
end
theorem nl : (∀ {α : Type} (a : α), id a = a) ∧ (∀ {α β : Type} (f : α → β) (a : α) (l : List α), (a :: l).map f = f a :: l.map f) ∧ (∀ {α β : Type} (f : α → β), ([] : List α).map f = []) ∧ (∀ {α : Type} (a : α) (l : List α), (a :: l).reverse = l.reverse ++ [a]) ∧
    (∀ {α : Type}, ([] : List α).reverse = []) ∧ (∀ {α : Type} (l : List α), [] ++ l = l) ∧ (∀ {α : Type} (a : α) (l k : List α), (a :: l) ++ k = a :: (l ++ k)) ∧ (∀ {α : Type} (l : List α), l ++ [] = l) ∧ (∀ {α : Type} (a : α) (l : List α), (a :: l)[0]? = some a) ∧ (∀ {α : Type} (a : α) (l : List α) (i : Nat), (a :: l)[i + 1]? = l[i]?) ∧
    (∀ {α β : Type} (f : α → β) (a : α), (some a).map f = some (f a)) ∧ (∀ {α : Type} (a b : α), (some a).getD b = a) ∧ (∀ {α : Type} (a b : α) (l : List α), (a :: l).set 0 b = b :: l) ∧ (∀ {α : Type} (a b : α) (l : List α) (i : Nat), (a :: l).set (i + 1) b = a :: l.set i b) ∧ (∀ n : Nat, 0 + n = n) :=
  ⟨id_eq, fun _ _ _ => rfl, fun _ => rfl, fun _ _ => List.reverse_cons, rfl, fun _ => rfl, fun _ _ _ => rfl, List.append_nil, fun _ _ => rfl, fun _ _ _ => rfl, fun _ _ => rfl, fun _ _ => rfl, fun _ _ _ => rfl, fun _ _ _ _ => rfl, Nat.zero_add⟩
theorem nx : (∀ {α : Type} (a b c : List α), a ++ b ++ c = a ++ (b ++ c)) ∧ (∀ {α : Type} (a : α) (l : List α) (i : Nat), (a :: l).take (i + 1) = a :: l.take i) ∧ (∀ {α : Type} (l : List α), l.take 0 = []) ∧ (∀ {α : Type} (a b : List α), List.append a b = a ++ b) :=
  ⟨List.append_assoc, fun _ _ _ => rfl, fun _ => rfl, fun _ _ => rfl⟩
theorem vl {fr : Bool} {v : V} : (v.cs fr).length = 5 := V.cs_length _ _
theorem wl {fr : Bool} {l : List V} : (V.css fr l).length = l.length := V.css_length _ _
theorem xl {fr : Bool} {v : EX} : (v.cs fr).length = 4 := EX.cs_length _ _
theorem lr {F : List (Value × AV)} {x : AV} : Le F x x := .refl _
end Go.Proofs.YtjhonjdhanlbkaaGreat.J

/- What expressions among the inputs read as. -/
namespace Go.Proofs.YtjhonjdhanlbkaaGreat.J
open Go Go.RowKit
set_option maxRecDepth 10000
set_option maxHeartbeats 4000000
theorem EX.rd {H : Type} {enc : TypeId × Value → H} {w : World} : ∀ (fuel : Nat) (cs : List Value) (x : DataW H × List MemPlace), trd enc Tryz.prog w fuel 25 cs = some x → Fits Tryz.prog 25 x.1 → ∃ v : EX, v.wf ∧ RdC w cs (v.cs false) := by
  intro fuel
  induction fuel using Nat.strongRecOn with
  | _ fuel ih =>
  intro cs x h hf
  obtain ⟨xs, n, rfl, rfl, hl, hlen, hg⟩ := DataW.trod_struct Tryz.underlying25 h
  obtain ⟨y0, y1, y2, y3, rfl⟩ : ∃ y0 y1 y2 y3, xs = [y0, y1, y2, y3] := by
    match xs, hlen with
    | [y0, y1, y2, y3], _ => exact ⟨y0, y1, y2, y3, rfl⟩
  have h0 := hg 0 _ rfl
  obtain ⟨a0, b0, r0⟩ := rd_i64 Tryz.underlying3 h0
  have h1 := hg 1 _ rfl
  obtain ⟨a1, b1, r1⟩ := rd_u64 Tryz.underlying22 h1
  have h2 := hg 2 _ rfl
  obtain ⟨a2, b2, r2⟩ := rd_str Tryz.underlying9 h2 (Fits.field Tryz.underlying25 hf (i := 2) rfl rfl)
  have h3 := hg 3 _ rfl
  obtain ⟨a3, b3, c3, r3⟩ := rd_slice (ei := eEX) (f := EX.cs false) (Wf := EX.wf) Tryz.underlying23 (by kernel_rfl) (by kernel_rfl) (by decide) h3 (Fits.field Tryz.underlying25 hf (i := 3) rfl rfl) (fun _ => EX.cs_length false _) (fun m cs' y hm hy hfy => ih m (by omega) cs' y hy hfy)
  refine ⟨.mk a0 a1 a2 a3, .mk b0 b1 b2 c3 b3, ?_⟩
  have := (RdC.join r0 (by kernel_rfl) (by kernel_rfl) ((RdC.join r1 (by kernel_rfl) (by kernel_rfl) ((RdC.join r2 (by kernel_rfl) (by kernel_rfl) (RdC.last r3 (hl.trans (by kernel_rfl))))))))
  simpa [EX.cs, EX.css_eq] using this
end Go.Proofs.YtjhonjdhanlbkaaGreat.J

/- What values among the inputs read as. -/
namespace Go.Proofs.YtjhonjdhanlbkaaGreat.J
open Go Go.RowKit
set_option maxRecDepth 10000
set_option maxHeartbeats 4000000
theorem V.rd {H : Type} {enc : TypeId × Value → H} {w : World} : ∀ (fuel : Nat) (cs : List Value) (x : DataW H × List MemPlace), trd enc Tryz.prog w fuel 29 cs = some x → Fits Tryz.prog 29 x.1 → ∃ v : V, v.wf ∧ RdC w cs (v.cs false) := by
  intro fuel
  induction fuel using Nat.strongRecOn with
  | _ fuel ih =>
  intro cs x h hf
  obtain ⟨xs, n, rfl, rfl, hl, hlen, hg⟩ := DataW.trod_struct Tryz.underlying29 h
  obtain ⟨y0, y1, y2, y3, y4, rfl⟩ : ∃ y0 y1 y2 y3 y4, xs = [y0, y1, y2, y3, y4] := by
    match xs, hlen with
    | [y0, y1, y2, y3, y4], _ => exact ⟨y0, y1, y2, y3, y4, rfl⟩
  have h0 := hg 0 _ rfl
  obtain ⟨a0, b0, r0⟩ := rd_i64 Tryz.underlying3 h0
  have h1 := hg 1 _ rfl
  obtain ⟨a1, b1, r1⟩ := rd_u64 Tryz.underlying22 h1
  have h2 := hg 2 _ rfl
  obtain ⟨a2, b2, r2⟩ := rd_str Tryz.underlying9 h2 (Fits.field Tryz.underlying29 hf (i := 2) rfl rfl)
  have h3 := hg 3 _ rfl
  obtain ⟨a3, b3, c3, r3⟩ := rd_slice (ei := eStr) (f := fun s => [.c (str s)]) (Wf := fun s => s.length ≤ reach) Tryz.underlying26 (by kernel_rfl) (by kernel_rfl) (by decide) h3 (Fits.field Tryz.underlying29 hf (i := 3) rfl rfl) (fun _ => rfl) (fun m cs' y hm hy hfy => rd_str Tryz.underlying9 hy hfy)
  have h4 := hg 4 _ rfl
  obtain ⟨a4, b4, c4, r4⟩ := rd_slice (ei := eV) (f := V.cs false) (Wf := V.wf) Tryz.underlying27 (by kernel_rfl) (by kernel_rfl) (by decide) h4 (Fits.field Tryz.underlying29 hf (i := 4) rfl rfl) (fun _ => V.cs_length false _) (fun m cs' y hm hy hfy => ih m (by omega) cs' y hy hfy)
  refine ⟨.mk a0 a1 a2 a3 a4, .mk b0 b1 b2 c3 c4 b3 b4, ?_⟩
  have := (RdC.join r0 (by kernel_rfl) (by kernel_rfl) ((RdC.join r1 (by kernel_rfl) (by kernel_rfl) ((RdC.join r2 (by kernel_rfl) (by kernel_rfl) ((RdC.join r3 (by kernel_rfl) (by kernel_rfl) (RdC.last r4 (hl.trans (by kernel_rfl))))))))))
  simpa [V.cs, keysAV, V.css_eq] using this
end Go.Proofs.YtjhonjdhanlbkaaGreat.J

/- Owned trees taken apart. -/
namespace Go.Proofs.YtjhonjdhanlbkaaGreat.J
open Go Go.RowKit
theorem Reown.msk (ms : List Cd) (own : List Own) {own' : List Own} (h : selP ms own = own') : Reown own own' := by
  subst h
  exact (Reown.perm ((sel_perm ms own).trans List.perm_append_comm)).trans (Reown.drop _ _)
theorem Reown.pair {a b o : Own} {l : List Own} (h : OwnEq (.grp [a, b]) o) : Reown (o :: l) (a :: b :: l) := (Reown.eq h.symm).trans (Reown.open [a, b] l)
theorem Reown.spoil {o1 o2 a b c d : Own} (h1 : OwnEq (.grp [a, b]) o1) (h2 : OwnEq (.grp [c, d]) o2) : Reown [o1, o2] [a, c, d] :=
  (Reown.pair h1).trans ((Reown.cons (Reown.cons (Reown.pair h2))).trans (Reown.msk [.p, .k, .p, .p] _ rfl))
theorem Tr.inv {e : ETy} {xs : List (List AV)} {v : Value} {o : Own} (h : Tr (.sl true false e xs) v o) :
    ∃ cs us o1, cs.flatten = us.map AV.c ∧ cs.length = xs.length ∧ (∀ x ∈ cs, x.length = e.sz) ∧ us.all (·.oneCell') = true ∧ TrL xs.flatten us o1 ∧ OwnEq (.grp [.arr v e cs, o1]) o := by
  cases h with
  | sl h1 h2 h3 h4 h5 h6 h ho => exact ⟨_, _, _, h1, h2, h4, h5, h, ho⟩
theorem Tr.c_inv {u v : Value} {o : Own} (h : Tr (.c u) v o) : v = u := by cases h; rfl
theorem TrL.cons_inv {y : AV} {ys : List AV} {us : List Value} {o : Own} (h : TrL (y :: ys) us o) : ∃ u us' a b, us = u :: us' ∧ Tr y u a ∧ TrL ys us' b ∧ OwnEq (.grp [a, b]) o := by
  cases h with
  | cons h hs ho => exact ⟨_, _, _, _, rfl, h, hs, ho⟩
theorem TrL.nil_inv {us : List Value} {o : Own} (h : TrL [] us o) : us = [] := by cases h; rfl
theorem TrL.value {x : V} {us : List Value} {o : Own} (h : TrL (x.cs true) us o) (h1 : us.all (·.oneCell') = true) : ∃ kv iv ok oi, us = x.vals kv iv ∧ VTr x kv iv ok oi ∧ Reown [o] [ok, oi] := by
  obtain ⟨k, b, t, ks, is⟩ := x
  unfold V.cs at h
  obtain ⟨u0, us0, a0, b0, rfl, g0, h, e0⟩ := h.cons_inv
  obtain ⟨u1, us1, a1, b1, rfl, g1, h, e1⟩ := h.cons_inv
  obtain ⟨u2, us2, a2, b2, rfl, g2, h, e2⟩ := h.cons_inv
  obtain ⟨u3, us3, a3, b3, rfl, g3, h, e3⟩ := h.cons_inv
  obtain ⟨u4, us4, a4, b4, rfl, g4, h, e4⟩ := h.cons_inv
  obtain rfl := h.nil_inv
  obtain rfl := g0.c_inv
  obtain rfl := g1.c_inv
  obtain rfl := g2.c_inv
  simp only [List.all_cons, List.all_nil, Bool.and_eq_true, Bool.and_true] at h1
  refine ⟨u3, u4, a3, a4, rfl, ⟨h1.2.2.2.1, h1.2.2.2.2, g3, g4⟩, ?_⟩
  have s0 : Reown [o] [b0] := (Reown.pair e0).trans (Reown.dropN 1 _ rfl)
  have s1 : Reown [b0] [b1] := (Reown.pair e1).trans (Reown.dropN 1 _ rfl)
  have s2 : Reown [b1] [b2] := (Reown.pair e2).trans (Reown.dropN 1 _ rfl)
  have s3 : Reown [b2] [a3, a4] := (Reown.pair e3).trans ((Reown.cons (Reown.pair e4)).trans (Reown.msk [.p, .p] _ rfl))
  exact s0.trans (s1.trans (s2.trans s3))
theorem flat_first {u1 u2 : List Value} {c : List AV} {cs : List (List AV)} (h : (c :: cs).flatten = (u1 ++ u2).map AV.c) (hl : c.length = u1.length) : c = u1.map AV.c ∧ cs.flatten = u2.map AV.c := by
  rw [List.flatten_cons, List.map_append] at h
  exact List.append_inj h (by simpa using hl)
theorem kids_take {is : List V} {cs : List (List AV)} {us : List Value} {o : Own} {j : Nat} (hlt : j < is.length) (hl : cs.length = is.length) (h3 : ∀ x ∈ cs, x.length = 5) (hf : (cs.drop j).flatten = us.map AV.c) (h1 : us.all (·.oneCell') = true) (h : TrL (V.css true (is.drop j)).flatten us o) :
    ∃ kv iv ok oi us2 o2, cs[j]? = some ((is[j]'hlt).raw kv iv) ∧ VTr (is[j]'hlt) kv iv ok oi ∧ (cs.drop (j + 1)).flatten = us2.map AV.c ∧ us2.all (·.oneCell') = true ∧ TrL (V.css true (is.drop (j + 1))).flatten us2 o2 ∧ Reown [o] [ok, oi, o2] := by
  rw [List.drop_eq_getElem_cons hlt, V.css, List.flatten_cons] at h
  obtain ⟨u1, u2, o1, o2, rfl, g1, g2, g3⟩ := h.split
  rw [List.all_append, Bool.and_eq_true] at h1
  obtain ⟨kv, iv, ok, oi, rfl, hV, hR⟩ := g1.value h1.1
  have hj : j < cs.length := by omega
  rw [List.drop_eq_getElem_cons hj] at hf
  obtain ⟨k1, k2⟩ := flat_first hf (by rw [h3 _ (List.getElem_mem hj)]; rfl)
  refine ⟨kv, iv, ok, oi, u2, o2, by rw [List.getElem?_eq_getElem hj, k1]; rfl, hV, k2, h1.2, g2, ?_⟩
  have s1 : Reown [o] [o1, o2] := Reown.pair g3
  have s2 : Reown [o1, o2] [ok, oi, o2] := (Reown.perm (List.Perm.swap _ _ _)).trans ((Reown.left (c := [o2]) hR).trans (Reown.perm (by
    simpa using (List.perm_append_comm (l₁ := [o2]) (l₂ := [ok, oi])))))
  exact s1.trans s2
end Go.Proofs.YtjhonjdhanlbkaaGreat.J

/- Expressions: which may be, how many parts, how deep, which are one; own trees; octets. -/
namespace Go.Proofs.YtjhonjdhanlbkaaGreat.J
open Go Go.RowKit
mutual
/-- The first error of a walk, and the parts so far. -/
def EX.chk : EX → Int → Int → Int × Int
  | .mk o b t l, lev, n => if 8 < lev then (10, n) else if 64 ≤ n then (3, n) else if (EX.mk o b t l).ok = false then (9, n) else EX.chks l lev (n + 1)
def EX.chks : List EX → Int → Int → Int × Int
  | [], _, n => (0, n)
  | x :: r, lev, n => if (x.chk (lev + 1) n).1 ≠ 0 then x.chk (lev + 1) n else EX.chks r lev (x.chk (lev + 1) n).2
end
mutual
def EX.depth : EX → Int
  | .mk _ _ _ l => 1 + EX.depths l
def EX.depths : List EX → Int
  | [] => 0
  | x :: r => max x.depth (EX.depths r)
end
def EX.err (v : EX) : Int := (v.chk 1 0).1
def EX.cnt (v : EX) : Int := (v.chk 1 0).2
mutual
theorem EX.chk_bounds : ∀ (v : EX) (lev n : Int), n ≤ (v.chk lev n).2 ∧ (n ≤ 64 → (v.chk lev n).2 ≤ 64)
  | .mk o b t l, lev, n => by
    unfold EX.chk
    split
    · exact ⟨Int.le_refl _, id⟩
    · split
      · exact ⟨Int.le_refl _, id⟩
      · split
        · exact ⟨Int.le_refl _, id⟩
        · have := EX.chks_bounds l lev (n + 1)
          exact ⟨by omega, fun h => this.2 (by omega)⟩
theorem EX.chks_bounds : ∀ (l : List EX) (lev n : Int), n ≤ (EX.chks l lev n).2 ∧ (n ≤ 64 → (EX.chks l lev n).2 ≤ 64)
  | [], lev, n => ⟨Int.le_refl _, id⟩
  | x :: r, lev, n => by
    unfold EX.chks
    have h1 := EX.chk_bounds x (lev + 1) n
    split
    · exact h1
    · have h3 := EX.chks_bounds r lev (x.chk (lev + 1) n).2
      exact ⟨by omega, fun h => h3.2 (h1.2 h)⟩
end
theorem EX.depths_nonneg : ∀ l : List EX, 0 ≤ EX.depths l
  | [] => Int.le_refl _
  | x :: r => by unfold EX.depths; have := EX.depths_nonneg r; omega
mutual
theorem EX.chk_depth : ∀ (v : EX) (lev n : Int), (v.chk lev n).1 = 0 → lev + v.depth ≤ 9 ∧ 1 ≤ v.depth
  | .mk o b t l, lev, n, h => by
    unfold EX.chk at h
    split at h
    · simp at h
    · split at h
      · simp at h
      · split at h
        · simp at h
        · have := EX.chks_depth l lev (n + 1) h
          have h0 := EX.depths_nonneg l
          unfold EX.depth
          omega
theorem EX.chks_depth : ∀ (l : List EX) (lev n : Int), (EX.chks l lev n).1 = 0 → EX.depths l = 0 ∨ lev + EX.depths l ≤ 8
  | [], lev, n, h => .inl rfl
  | x :: r, lev, n, h => by
    unfold EX.chks at h
    split at h
    · rename_i h'; exact absurd h h'
    · rename_i h'
      have h1 := EX.chk_depth x (lev + 1) n (by simpa using h')
      have h2 := EX.chks_depth r lev _ h
      right
      unfold EX.depths
      omega
end
inductive EX.Fine : EX → Prop
  | mk {o : Int} {b : Nat} {t : Str} {l : List EX} (h : (EX.mk o b t l).ok = true) (h' : ∀ x ∈ l, EX.Fine x) : EX.Fine (.mk o b t l)
mutual
theorem EX.fine_chk : ∀ (v : EX) (lev n : Int), (v.chk lev n).1 = 0 → v.Fine
  | .mk o b t l, lev, n, h => by
    unfold EX.chk at h
    split at h
    · simp at h
    · split at h
      · simp at h
      · split at h
        · simp at h
        · rename_i h3
          exact .mk (by simpa using h3) (EX.fine_chks l lev (n + 1) h)
theorem EX.fine_chks : ∀ (l : List EX) (lev n : Int), (EX.chks l lev n).1 = 0 → ∀ x ∈ l, x.Fine
  | [], lev, n, h => fun x hx => by cases hx
  | y :: r, lev, n, h => by
    unfold EX.chks at h
    split at h
    · rename_i h'; exact absurd h h'
    · rename_i h'
      intro x hx
      rcases List.mem_cons.1 hx with hxy | hx
      · rw [hxy]; exact EX.fine_chk _ _ _ (by simpa using h')
      · exact EX.fine_chks r _ _ h x hx
end
theorem EX.fine_of {v : EX} (h : v.err = 0) : v.Fine := EX.fine_chk v 1 0 h
theorem EX.Fine.part {v : EX} (h : v.Fine) : v.ok = true := by cases h; assumption
theorem EX.Fine.kid {v x : EX} (h : v.Fine) (hx : x ∈ v.args) : x.Fine := by cases h with | mk _ h => exact h x hx
theorem EX.ok_bounds {o : Int} {b : Nat} {t : Str} {l : List EX} (h : (EX.mk o b t l).ok = true) : 0 ≤ o ∧ o < 30 ∧ t.length ≤ 128 ∧ l.length ≤ 8 := by
  simp only [EX.ok, Bool.and_eq_true, decide_eq_true_eq] at h
  obtain ⟨⟨⟨⟨⟨h1, -⟩, h2⟩, -⟩, h3⟩, -⟩ := h
  simp only [EX.op, EX.args, EX.text] at h1 h2 h3
  have h4 : 0 ≤ o ∧ o < 30 := by
    by_cases hh : o < 0 ∨ 30 ≤ o
    · exact absurd (by unfold argsN; rw [if_pos hh]) h1
    · omega
  have h5 : textHi o ≤ 128 := by unfold textHi; repeat' split <;> omega
  exact ⟨h4.1, h4.2, by omega, by omega⟩
/-! ### own trees -/
def EX.raw (v : EX) (iv : Value) : List AV := [.c (.int .i64 v.op), .c (.int .u64 (v.bits : Int)), .c (str v.text), .c iv]
def EX.vals (v : EX) (iv : Value) : List Value := [.int .i64 v.op, .int .u64 (v.bits : Int), str v.text, iv]
theorem EX.raw_eq (v : EX) (iv : Value) : v.raw iv = (v.vals iv).map AV.c := rfl
structure ETr (v : EX) (iv : Value) (oi : Own) : Prop where
  i1 : iv.oneCell' = true
  is : Tr (.sl true false eEX (EX.css true v.args)) iv oi
theorem ETr.trL {v : EX} {iv : Value} {oi : Own} (h : ETr v iv oi) : TrL (v.cs true) (v.vals iv) oi := by
  obtain ⟨o, b, t, l⟩ := v
  have hn : TrL [] [] (.grp []) := .nil (.refl _)
  refine .cons (.c (.refl _)) (.cons (.c (.refl _)) (.cons (.c (.refl _)) (.cons h.is hn (o'' := oi) ?_) (.drops _)) (.drops _)) (.drops _)
  exact (OwnEq.grp_perm (List.Perm.swap _ _ _)).trans (.drops _)
theorem ETr.ones {v : EX} {iv : Value} {oi : Own} (h : ETr v iv oi) : (v.vals iv).all (·.oneCell') = true := by
  simp [EX.vals, h.i1]
  exact ⟨rfl, rfl, rfl⟩
theorem eargs_tr {v : Value} {is : List EX} {cells : List (List AV)} {us : List Value} {o : Own} (h1 : cells.flatten = us.map AV.c) (h2 : cells.length = is.length) (h3 : ∀ x ∈ cells, x.length = 4) (h5 : us.all (·.oneCell') = true) (h6 : is.length * 56 ≤ reach)
    (h : TrL (EX.css true is).flatten us o) : Tr (.sl true false eEX (EX.css true is)) v (.grp [.arr v eEX cells, o]) :=
  .sl h1 (by rw [h2, EX.css_length]) (EX.css_sz true is) h3 h5 (by rw [EX.css_length]; exact h6) h (.refl _)
def CopyE (v : EX) : AV → List Own → Prop := fun x o => ∃ iv oi, x = .agg (v.raw iv) ∧ o = [oi] ∧ ETr v iv oi
structure EKids (is : List EX) (cells : List (List AV)) (us : List Value) (o : Own) : Prop where
  h1 : cells.flatten = us.map AV.c
  h2 : cells.length = is.length
  h3 : ∀ x ∈ cells, x.length = 4
  h5 : us.all (·.oneCell') = true
  h : TrL (EX.css true is).flatten us o
theorem EKids.nil : EKids [] [] [] (.grp []) := ⟨rfl, rfl, (fun _ h => by cases h), rfl, .nil (.refl _)⟩
theorem EKids.snoc {is : List EX} {cells : List (List AV)} {us : List Value} {o oi : Own} {v : EX} {iv : Value} (h : EKids is cells us o) (hv : ETr v iv oi) : EKids (is ++ [v]) (cells ++ [v.raw iv]) (us ++ v.vals iv) (.grp [o, oi]) := by
  refine ⟨by simp [h.h1, EX.raw_eq], by simp [h.h2], fun x hx => ?_, by rw [List.all_append, h.h5, hv.ones]; rfl, ?_⟩
  · rcases List.mem_append.1 hx with hx | hx
    · exact h.h3 x hx
    · simp only [List.mem_singleton] at hx; subst hx; rfl
  · rw [EX.css_append, List.flatten_append]
    refine h.h.append ?_ (.refl _)
    simpa [EX.css] using hv.trL
theorem EKids.tr {is : List EX} {cells : List (List AV)} {us : List Value} {o : Own} (h : EKids is cells us o) {v : Value} (h6 : is.length * 56 ≤ reach) : Tr (.sl true false eEX (EX.css true is)) v (.grp [.arr v eEX cells, o]) :=
  eargs_tr h.h1 h.h2 h.h3 h.h5 h6 h.h
theorem EX.raw_le {F : List (Value × AV)} {v : EX} {iv : Value} {fr : Bool} (hi : (iv, .sl fr false eEX (EX.css fr v.args)) ∈ F) : Le F (.agg (v.raw iv)) (.agg (v.cs fr)) := by
  obtain ⟨o, b, t, l⟩ := v
  exact .aggL (.cons (.refl _) (.cons (.refl _) (.cons (.refl _) (.cons (.fact hi (.refl _)) .nil))))
theorem ETr.closG {v : EX} {iv : Value} {oi : Own} (h : ETr v iv oi) (w : World) (A : Foot) (hok : ∀ y ∈ [oi], y.ok w A) (hb : ∀ b ∈ fps [oi], ∀ fr, A fr b) :
    ∀ p ∈ [(iv, AV.sl true false eEX (EX.css true v.args))], Rd w A p.1 p.2 := fun p hp => by
  obtain rfl := List.mem_singleton.1 hp
  simp only [fps_cons, fps_nil, List.append_nil] at hb
  exact h.is.rd (hok _ (by simp)) fun b hb' => hb b hb' true
theorem Fn.ofCopyE {P : Program} {f : FuncId} {xs : List AV} {v : EX} (h : AC P f [] xs (RetR (CopyE v))) : Fn P f xs (.agg (v.cs true)) :=
  Fn.close h fun x o ⟨iv, oi, hx, ho, hV⟩ => by
    subst hx ho
    exact ⟨_, hV.closG, EX.raw_le (by simp)⟩
end Go.Proofs.YtjhonjdhanlbkaaGreat.J

/- A number's eight octets. -/
namespace Go.Proofs.YtjhonjdhanlbkaaGreat.J
open Go Go.RowKit
/-! ### octets of expressions -/
end Go.Proofs.YtjhonjdhanlbkaaGreat.J

/- Walks: numbers (the package float), first part. -/
namespace Go.Proofs.YtjhonjdhanlbkaaGreat.J
open Go Go.RowKit
set_option maxRecDepth 10000
set_option maxHeartbeats 4000000
theorem of_ok (b : Nat) : Fn Tryz.prog 96 [.c (flt b)] (.c (.int .u64 (canonN b : Int))) := by
  refine AC.of_J Tryz.func96 rfl Tryz.ntmps96 rfl fun w0 A0 => ?_
  refine Zs (Zq rfl (QW.assign .const) (Zn (J.seq (Zs (Zq rfl (QW.move (.tmp rfl)) (Zq rfl (QW.move (.tmp rfl)) (Zq rfl (QW.neq_f (.tmp rfl) (.tmp rfl)) (Zn ?_))))))))
  refine J.cond (.tmp rfl) (fun c1 => ?_) (fun c1 => ?_)
  · skip
    refine Zs (Zq rfl (QW.assign .const) (Zn (J.ret (thenQ.r ?_))))
    exact ⟨_, [], _, RetEv.one rfl (REv.tmp rfl lr), rfl, List.Perm.refl _, by rw [fneq_self] at c1; simp [canonN, c1, oneNan], rfl⟩
  · skip
    refine Zk (Zs (Zq rfl (QW.move (.tmp rfl)) (Zq rfl (QW.ext (extBits _) (.tmp rfl)) (Zq rfl (QW.assign (.tmp rfl)) (Zn (J.ret ?_))))))
    exact ⟨_, [], _, RetEv.one rfl (REv.tmp rfl lr), rfl, List.Perm.refl _, by rw [fneq_self] at c1; simp [canonN, c1], rfl⟩
theorem canon_ok (b : Nat) : Fn Tryz.prog 87 [.c (.int .u64 (b : Int))] (.c (.int .u64 (canonN b : Int))) := by
  refine AC.of_J Tryz.func87 rfl Tryz.ntmps87 rfl fun w0 A0 => ?_
  refine Zs (Zq rfl (QW.assign .const) (Zn (Zs (Zq rfl (QW.move (.tmp rfl)) (Zq rfl (QW.ext (extFrom _) (.tmp rfl)) (Zq rfl (QW.call gofn96 (.cons (.tmp rfl) .nil) (by (apply of_ok <;> first | assumption | omega))) ?_))))))
  refine Zq rfl (QW.assign (.tmp rfl)) (Zn (J.ret ?_))
  exact ⟨_, [], _, RetEv.one rfl (REv.tmp rfl lr), rfl, List.Perm.refl _, rfl, rfl⟩
end Go.Proofs.YtjhonjdhanlbkaaGreat.J

/- Walks: the page's own classes of numbers (the package fanlightref01), for the seats that reach no more of it. -/
namespace Go.Proofs.YtjhonjdhanlbkaaGreat.J
open Go Go.RowKit
set_option maxRecDepth 10000
set_option maxHeartbeats 4000000
theorem class_nan {b : Nat} : classN b = 5 ↔ isNan b = true := by
  unfold classN
  cases isNan b with
  | true => simp
  | false =>
    simp only [Bool.false_eq_true, if_false, iff_false]
    (repeat' split) <;> omega
def expN (b : Nat) : Nat := b / 2 ^ 52 % 2048
def fracN (b : Nat) : Nat := b % 2 ^ 52
theorem and_mask2 {b : Nat} (k : Nat) (hb : b < 2 ^ 64) (hk : 2 ^ k - 1 < 2 ^ 64) : bitsOp .and .u64 (b : Int) ((2 ^ k - 1 : Nat) : Int) = ((b % 2 ^ k : Nat) : Int) := by
  rw [bits_and b _ hb hk, Nat.and_two_pow_sub_one_eq_mod]
theorem frac_bits {b : Nat} (hb : b < 2 ^ 64) : bitsOp .and .u64 (b : Int) 4503599627370495 = (fracN b : Int) := and_mask2 52 hb (by decide)
theorem exp_bits {b : Nat} (hb : b < 2 ^ 64) : bitsOp .and .u64 ((b / 2 ^ 52 : Nat) : Int) 2047 = (expN b : Int) := and_mask2 11 (by omega) (by decide)
theorem rung_fields (b : Nat) : rung b = expN b * 2 ^ 52 + fracN b := by unfold rung expN fracN; omega
theorem exp_lt (b : Nat) : expN b < 2048 := Nat.mod_lt _ (by decide)
theorem frac_lt (b : Nat) : fracN b < 2 ^ 52 := Nat.mod_lt _ (by decide)
theorem nan_fields (b : Nat) : isNan b = true ↔ expN b = 2047 ∧ fracN b ≠ 0 := by
  rw [isNan_eq, decide_eq_true_eq, rung_fields]
  have h1 := exp_lt b
  have h2 := frac_lt b
  unfold infR
  omega
theorem nanAny_lt {c : Nat} (h : nanAny c) : c < 2 ^ 64 := by
  obtain ⟨t, rfl⟩ := h
  have h1 := Nat.mod_lt t (show 0 < 2 by decide)
  have h2 := Nat.mod_lt (t / 2) (show 0 < 2 ^ 52 - 1 by decide)
  omega
theorem class_two {b : Nat} (hb : b < 2 ^ 64) : classN b =
    if expN b = 2047 ∧ fracN b ≠ 0 then 5 else if expN b = 2047 then 4 else if 0 < expN b then 3 else if 0 < fracN b then 2 else if b = 2 ^ 63 then 1 else 0 := by
  have h := nan_fields b
  have h1 := exp_lt b
  have h2 := frac_lt b
  have h3 := rung_fields b
  have h4 : b = 2 ^ 63 ↔ (rung b = 0 ∧ 2 ^ 63 ≤ b) := by unfold rung; omega
  unfold classN
  unfold infR
  cases hn : isNan b with
  | true => rw [if_pos rfl, if_pos (h.1 hn)]
  | false =>
    rw [hn] at h
    have h' : ¬ (expN b = 2047 ∧ fracN b ≠ 0) := fun e => by have := h.2 e; cases this
    rw [if_neg (by decide), if_neg h']
    repeat' split
    all_goals first | rfl | omega
theorem rexp_ok (b : Nat) (hb : b < 2 ^ 64) : Fn Tryz.prog 105 [.c (.int .u64 (b : Int))] (.c (.int .i64 (expN b : Int))) := by
  refine AC.of_J Tryz.func105 rfl Tryz.ntmps105 rfl fun w0 A0 => ?_
  refine Zs (Zq rfl (QW.assign .const) (Zn (Zs (Zq rfl (QW.move (.tmp rfl)) (Zq rfl (QW.shr (c := ((b / 2 ^ 52 : Nat) : Int)) (.tmp rfl) .const (by decide) (shr_nat b 52)) ?_)))))
  refine Zq rfl (QW.and (.tmp rfl) .const (exp_bits hb)) (Zq rfl (QW.conv_int (c := (expN b : Int)) us22 iu3 (.tmp rfl) (w64 (by have := exp_lt b; omega))) ?_)
  refine Zq rfl (QW.assign (.tmp rfl)) (Zn (J.ret ?_))
  exact ⟨_, [], _, RetEv.one rfl (REv.tmp rfl lr), rfl, List.Perm.refl _, rfl, rfl⟩
theorem rfrac_ok (b : Nat) (hb : b < 2 ^ 64) : Fn Tryz.prog 108 [.c (.int .u64 (b : Int))] (.c (.int .u64 (fracN b : Int))) := by
  refine AC.of_J Tryz.func108 rfl Tryz.ntmps108 rfl fun w0 A0 => ?_
  refine Zs (Zq rfl (QW.assign .const) (Zn (Zs (Zq rfl (QW.move (.tmp rfl)) (Zq rfl (QW.and (.tmp rfl) .const (frac_bits hb)) (Zq rfl (QW.assign (.tmp rfl)) (Zn (J.ret ?_))))))))
  exact ⟨_, [], _, RetEv.one rfl (REv.tmp rfl lr), rfl, List.Perm.refl _, rfl, rfl⟩
theorem rclass_ok (b : Nat) (hb : b < 2 ^ 64) : Fn Tryz.prog 89 [.c (.int .u64 (b : Int))] (.c (.int .i64 (classN b))) := by
  refine AC.of_J Tryz.func89 rfl Tryz.ntmps89 rfl fun w0 A0 => ?_
  refine Zs (Zq rfl (QW.assign .const) (Zn (J.seq (J.block (Zs (Zq rfl (QW.move (.tmp rfl)) (Zq rfl (QW.call gofn105 (.cons (.tmp rfl) .nil) (by (apply rexp_ok <;> first | assumption | omega))) ?_)))))))
  refine Zq rfl (QW.eql (.tmp rfl) .const) (Zq rfl (QW.move (.tmp rfl)) (Zg rfl (fun hg => (QW.move (.tmp rfl))) (Zg rfl (fun hg => (QW.call gofn108 (.cons (.when rfl hg) .nil) (by (apply rfrac_ok <;> first | assumption | omega)))) ?_)))
  refine Zg rfl (fun hg => (QW.neq (.when rfl hg) .const)) (Zq rfl (QW.pick_and (.tmp rfl) (.tmp rfl)) (Zq rfl (QW.assign (.tmp rfl)) (Zn ?_)))
  refine J.cond (.tmp rfl) (fun c1 => ?_) (fun c1 => ?_)
  ·
    simp at c1
    refine Zs (Zq rfl (QW.assign .const) (Zn (J.ret (blkQ.r (thenQ.r ?_)))))
    exact ⟨_, [], _, RetEv.one rfl (REv.tmp rfl lr), rfl, List.Perm.refl _, by rw [class_two hb, if_pos (by omega)], rfl⟩
  ·
    simp at c1
    refine Zs (Zq rfl (QW.move (.tmp rfl)) (Zq rfl (QW.call gofn105 (.cons (.tmp rfl) .nil) (by (apply rexp_ok <;> first | assumption | omega))) ?_))
    refine Zq rfl (QW.eql (.tmp rfl) .const) (Zq rfl (QW.assign (.tmp rfl)) (Zn ?_))
    refine J.cond (.tmp rfl) (fun c2 => ?_) (fun c2 => ?_)
    ·
      simp at c2
      refine Zs (Zq rfl (QW.assign .const) (Zn (J.ret (blkQ.r (thenQ.r ?_)))))
      exact ⟨_, [], _, RetEv.one rfl (REv.tmp rfl lr), rfl, List.Perm.refl _, by rw [class_two hb, if_neg (by omega), if_pos (by omega)], rfl⟩
    ·
      simp at c2
      refine Zs (Zq rfl (QW.move (.tmp rfl)) (Zq rfl (QW.call gofn105 (.cons (.tmp rfl) .nil) (by (apply rexp_ok <;> first | assumption | omega))) ?_))
      refine Zq rfl (QW.gtr (.tmp rfl) .const) (Zq rfl (QW.assign (.tmp rfl)) (Zn ?_))
      refine J.cond (.tmp rfl) (fun c3 => ?_) (fun c3 => ?_)
      ·
        simp at c3
        refine Zs (Zq rfl (QW.assign .const) (Zn (J.ret (blkQ.r (thenQ.r ?_)))))
        exact ⟨_, [], _, RetEv.one rfl (REv.tmp rfl lr), rfl, List.Perm.refl _, by rw [class_two hb, if_neg (by omega), if_neg (by omega), if_pos (by omega)], rfl⟩
      ·
        simp at c3
        refine Zs (Zq rfl (QW.move (.tmp rfl)) (Zq rfl (QW.call gofn108 (.cons (.tmp rfl) .nil) (by (apply rfrac_ok <;> first | assumption | omega))) ?_))
        refine Zq rfl (QW.gtr (.tmp rfl) .const) (Zq rfl (QW.assign (.tmp rfl)) (Zn ?_))
        refine J.cond (.tmp rfl) (fun c4 => ?_) (fun c4 => ?_)
        ·
          simp at c4
          refine Zs (Zq rfl (QW.assign .const) (Zn (J.ret (blkQ.r (thenQ.r ?_)))))
          exact ⟨_, [], _, RetEv.one rfl (REv.tmp rfl lr), rfl, List.Perm.refl _, by rw [class_two hb, if_neg (by omega), if_neg (by omega), if_neg (by omega), if_pos (by omega)], rfl⟩
        ·
          simp at c4
          refine Zs (Zq rfl (QW.move (.tmp rfl)) (Zq rfl (QW.eql (.tmp rfl) .const) (Zq rfl (QW.assign (.tmp rfl)) (Zn ?_))))
          refine J.cond (.tmp rfl) (fun c5 => ?_) (fun c5 => ?_)
          ·
            simp at c5
            refine Zs (Zq rfl (QW.assign .const) (Zn (J.ret (blkQ.r (thenQ.r ?_)))))
            exact ⟨_, [], _, RetEv.one rfl (REv.tmp rfl lr), rfl, List.Perm.refl _, by rw [class_two hb, if_neg (by omega), if_neg (by omega), if_neg (by omega), if_neg (by omega), if_pos (by omega)], rfl⟩
          ·
            simp at c5
            refine J.skip (blkQ.n (thenQ.n (Zs (Zq rfl (QW.assign .const) (Zn (J.ret ?_))))))
            exact ⟨_, [], _, RetEv.one rfl (REv.tmp rfl lr), rfl, List.Perm.refl _, by rw [class_two hb, if_neg (by omega), if_neg (by omega), if_neg (by omega), if_neg (by omega), if_neg (by omega)], rfl⟩
theorem rcanon_ok (b : Nat) (hb : b < 2 ^ 64) : Fn Tryz.prog 62 [.c (.int .u64 (b : Int))] (.c (.int .u64 (canonN b : Int))) := by
  refine AC.of_J Tryz.func62 rfl Tryz.ntmps62 rfl fun w0 A0 => ?_
  refine Zs (Zq rfl (QW.assign .const) (Zn (J.seq (Zs (Zq rfl (QW.move (.tmp rfl)) (Zq rfl (QW.call gofn89 (.cons (.tmp rfl) .nil) (by (apply rclass_ok <;> first | assumption | omega))) ?_))))))
  refine Zq rfl (QW.eql (.tmp rfl) .const) (Zn ?_)
  refine J.cond (.tmp rfl) (fun c1 => ?_) (fun c1 => ?_)
  ·
    simp at c1
    refine Zs (Zq rfl (QW.assign .const) (Zn (J.ret (thenQ.r ?_))))
    exact ⟨_, [], _, RetEv.one rfl (REv.tmp rfl lr), rfl, List.Perm.refl _, by simp [canonN, class_nan.1 (show classN b = 5 by omega)]; rfl, rfl⟩
  ·
    simp at c1
    refine Zk (Zs (Zq rfl (QW.move (.tmp rfl)) (Zq rfl (QW.assign (.tmp rfl)) (Zn (J.ret ?_)))))
    exact ⟨_, [], _, RetEv.one rfl (REv.tmp rfl lr), rfl, List.Perm.refl _, by unfold canonN; rw [if_neg (fun h => c1 (by rw [class_nan.2 h]))], rfl⟩
end Go.Proofs.YtjhonjdhanlbkaaGreat.J

/- Walks: the value package, one part. -/
namespace Go.Proofs.YtjhonjdhanlbkaaGreat.J
open Go Go.RowKit
set_option maxRecDepth 10000
set_option maxHeartbeats 4000000
theorem key_ok (s : Str) : Fn Tryz.prog 114 [.c (str s)] (.c (.bool (keyOk s))) := by
  refine AC.of_J Tryz.func114 rfl Tryz.ntmps114 rfl fun w0 A0 => ?_
  refine Zs (Zq rfl (QW.assign .const) (Zn (Zs (Zq rfl (QW.move (.tmp rfl)) (Zq rfl (QW.neq_s (.tmp rfl) .const) (Zq rfl (QW.move (.tmp rfl)) (Zg rfl (fun hg => (QW.move (.tmp rfl))) (Zg rfl (fun hg => (QW.len_s st9 (.when rfl hg))) (Zg rfl (fun hg => (QW.leq (.when rfl hg) .const)) ?_)))))))))
  exact Zq rfl (QW.pick_and (.tmp rfl) (.tmp rfl)) (Zq rfl (QW.assign (.tmp rfl)) (Zn (J.ret (Zr [] (RetEv.one rfl (REv.tmp rfl lr)) rfl ⟨by simp only [keyOk]; congr 3; rw [Bool.eq_iff_iff]; cases s <;> simp [bne] <;> omega, rfl⟩))))
theorem rkey_ok (s : Str) : Fn Tryz.prog 63 [.c (str s)] (.c (.bool (keyOk s))) := by
  refine AC.of_J Tryz.func63 rfl Tryz.ntmps63 rfl fun w0 A0 => ?_
  refine Zs (Zq rfl (QW.assign .const) (Zn (Zs (Zq rfl (QW.move (.tmp rfl)) (Zq rfl (QW.len_s st9 (.tmp rfl)) (Zq rfl (QW.geq (.tmp rfl) .const) (Zq rfl (QW.move (.tmp rfl)) (Zg rfl (fun hg => (QW.move (.tmp rfl))) (Zg rfl (fun hg => (QW.len_s st9 (.when rfl hg))) ?_)))))))))
  exact Zg rfl (fun hg => (QW.leq (.when rfl hg) .const)) (Zq rfl (QW.pick_and (.tmp rfl) (.tmp rfl)) (Zq rfl (QW.assign (.tmp rfl)) (Zn (J.ret (Zr [] (RetEv.one rfl (REv.tmp rfl lr)) rfl ⟨by simp only [keyOk]; congr 3; rw [Bool.eq_iff_iff]; simp; omega, rfl⟩)))))
theorem keysAV_getD {ks : List Str} {i : Nat} (h : i < ks.length) : (keysAV ks)[i]? = some [.c (str (ks.getD i []))] := by simp [keysAV, h]
theorem bytesLess_tri : ∀ (a b : List UInt8), (Op.bytesLess a b || a == b) = !Op.bytesLess b a
  | [], [] => by simp [Op.bytesLess]
  | [], y :: b => by simp [Op.bytesLess]
  | x :: a, [] => by simp [Op.bytesLess]
  | x :: a, y :: b => by
    have ih := bytesLess_tri a b
    simp only [Op.bytesLess]
    by_cases h : x < y
    · have h' : ¬ y < x := fun h' => by have := UInt8.lt_iff_toNat_lt.1 h; have := UInt8.lt_iff_toNat_lt.1 h'; omega
      have hne : (y == x) = false := by simp; intro e; subst e; exact h' h
      simp [h, h', hne]
    · by_cases he : x = y
      · subst he
        simpa [h] using ih
      · have h' : y < x := by
          have hn : ¬ x.toNat < y.toNat := fun hh => h (UInt8.lt_iff_toNat_lt.2 hh)
          have hn2 : x.toNat ≠ y.toNat := fun hh => he (UInt8.toNat_inj.1 hh)
          exact UInt8.lt_iff_toNat_lt.2 (by omega)
        have hne : (x == y) = false := by simpa using he
        simp [h, h', hne]
theorem keys_ok (fr : Bool) (l : List Str) (hl : l.length ≤ 9223372036854775806) : Fn Tryz.prog 88 [.sl fr false eStr (keysAV l)] (.c (.bool (keysOk l))) := by
  refine AC.of_J Tryz.func88 rfl Tryz.ntmps88 rfl fun w0 A0 => ?_
  refine Zs (Zq rfl (QW.assign .const) (Zn (J.seq (Zs (Zq rfl (QW.move (.tmp rfl)) (Zq rfl (QW.len_sl sl26 (.tmp rfl)) (Zq rfl (QW.move .const) (Zn (J.block ?_)))))))))
  refine J.loopK (ι := Nat) [0, 5, 6] (fun k => [(7, .c (.int .i64 (k : Int)))]) (fun _ oo => oo) (fun k => k ≤ l.length ∧ (List.range k).all (keyAt l) = true) (fun k => l.length - k) 0 (by simp) (Wk.re (.cons rfl lr (.cons rfl lr (.cons rfl lr (.cons rfl lr .nil)))) (Reown.refl _) (fun _ h => by first | exact h | simp [h])) ?_
  intro k ⟨hk, hall⟩
  refine J.conv (by (try simp only [nl, stepsO, valO, nthO, curO, mrg, AV.cellsOf, splice_zero, splice_succ, Nat.reduceAdd]); rfl) ?_
  refine Zs (Zq rfl (QW.lss (.tmp rfl) (.tmp rfl)) (Zn (J.seq ?_)))
  refine J.cond (.tmp rfl) (fun c1 => ?_) (fun c1 => ?_)
  · skip
    simp [keysAV_length] at c1
    refine Zk (J.seq (J.block (Zs (Zq rfl (QW.move (.tmp rfl)) (Zq rfl (QW.index_sl sl26 ty9 rfl (.tmp rfl) (.tmp rfl) rfl (by exact keysAV_getD (by omega))) ?_)))))
    refine Zq rfl (QW.load_ref1 ty9 (.tmp rfl) rfl) (Zq rfl (QW.assign (.tmp rfl)) (Zq rfl (QW.assign (.tmp rfl)) (Zn (Zs (Zq rfl (QW.move (.tmp rfl)) (Zq rfl (QW.call gofn114 (.cons (.tmp rfl) .nil) (key_ok _)) (Zq rfl (QW.not (.tmp rfl)) (Zq rfl (QW.move (.tmp rfl)) (Zg rfl (fun hg => (QW.move (.tmp rfl))) ?_)))))))))
    refine Zg rfl (fun hg => (QW.gtr (.when rfl hg) .const)) (Zg rfl (fun hg => (QW.move (.when rfl hg))) (JL.gg rfl rfl rfl rfl rfl (fun hg => (QW.move (.tmp rfl))) (JL.gg rfl rfl rfl rfl rfl (fun hg => (QW.move (.tmp rfl))) (JL.gg rfl rfl rfl rfl rfl (fun hg => (QW.sub (.when rfl hg) .const (w64 (by omega)))) (JL.gg rfl rfl rfl rfl rfl (fun hg => QW.index_sl (m := k - 1) sl26 ty9 rfl (.when rfl hg) (.when rfl hg) (by simp at hg; omega) (keysAV_getD (by omega))) ?_)))))
    refine JL.gg rfl rfl rfl rfl rfl (fun hg => (QW.load_ref1 ty9 (.when rfl hg) rfl)) (JL.gg rfl rfl rfl rfl rfl (fun hg => (QW.move (.tmp rfl))) (JL.gg rfl rfl rfl rfl rfl (fun hg => (QW.geq_s (.when rfl hg) (.when rfl hg))) (Zg rfl (fun hg => (QW.pick_and2 hg (.when rfl hg) (.tmp rfl))) (Zq rfl (QW.pick_or (.tmp rfl) (.tmp rfl)) (Zn ?_)))))
    refine J.cond (.tmp rfl) (fun c2 => ?_) (fun c2 => ?_)
    · skip
      have hbad : keyAt l k = false := by
        simp [keyAt] at c2 ⊢
        grind
      exact Zs (Zq rfl (QW.assign .const) (Zn (J.ret (blkQ.r (thenQ.r (thenQ.r (blkQ.r (thenQ.r (Zr [] (RetEv.one rfl (REv.tmp rfl lr)) rfl ⟨by rw [keysOk, all_range_false (by omega) hbad], rfl⟩)))))))))
    have hgood : keyAt l k = true := by
      simp [keyAt] at c2 ⊢
      grind
    refine J.skip (blkQ.n (thenQ.n (J.region_lit (Zq rfl (QW.add (.tmp rfl) .const (w64 (by omega))) (Zq rfl (QW.move (.tmp rfl)) (Zn ?_))))))
    exact ⟨k + 1, ⟨by omega, all_range_succ hall hgood⟩, by omega, Wk.re (.cons rfl lr (.cons rfl lr (.cons rfl lr (.cons rfl lr .nil)))) (Reown.refl _) (fun _ h => by first | exact h | simp [h])⟩
  simp [keysAV_length] at c1
  exact J.exit (thenQ.x (thenQ.x (blkQ.hit (thenQ.n (Zs (Zq rfl (QW.assign .const) (Zn (J.ret (Zr [] (RetEv.one rfl (REv.tmp rfl lr)) rfl ⟨by rw [keysOk, show l.length = k by omega, hall], rfl⟩)))))))))
def bareOk : V → Bool
  | .mk k b t ks is => (k == 1 || k == 2 || b == 0) && (k == 3 || t == []) && (k == 5 || ks.length == 0) && (!(k == 0 || k == 1 || k == 2 || k == 3) || is.length == 0)
theorem bare_ok {fr : Bool} {v : V} {ys : List AV} (hv : Vc fr v ys) : Fn Tryz.prog 86 [.agg ys] (.c (.bool (bareOk v))) := by
  obtain ⟨k, b, t, ks, is⟩ := v
  subst hv
  refine AC.of_J Tryz.func86 rfl Tryz.ntmps86 rfl fun w0 A0 => ?_
  refine Zs (JL.box_agg (.tmp rfl) rfl fun b1 => Zq rfl (QW.assign .const) (Zn (Zs (Zq rfl (QW.field_ptr fo29_0 (.tmp rfl) rfl) (Zq rfl (QW.load_box1 0 ty3 (.tmp rfl) rfl rfl) (Zq rfl (QW.eql (.tmp rfl) .const) (Zq rfl (QW.move (.tmp rfl)) (Zg rfl (fun hg => (QW.field_ptr fo29_0 (.tmp rfl) rfl)) ?_))))))))
  refine Zg rfl (fun hg => (QW.load_box1 0 ty3 (.when rfl hg) rfl rfl)) (Zg rfl (fun hg => (QW.eql (.when rfl hg) .const)) (Zq rfl (QW.pick_or (.tmp rfl) (.tmp rfl)) (Zq rfl (QW.move (.tmp rfl)) (Zg rfl (fun hg => (QW.field_ptr fo29_0 (.tmp rfl) rfl)) (Zg rfl (fun hg => (QW.load_box1 0 ty3 (.when rfl hg) rfl rfl)) (Zg rfl (fun hg => (QW.eql (.when rfl hg) .const)) (Zq rfl (QW.pick_or (.tmp rfl) (.tmp rfl)) (Zq rfl (QW.assign (.tmp rfl)) (Zn ?_)))))))))
  refine J.seq (J.block (Zs (Zq rfl (QW.field_ptr fo29_0 (.tmp rfl) rfl) (Zq rfl (QW.load_box1 0 ty3 (.tmp rfl) rfl rfl) (Zq rfl (QW.neq (.tmp rfl) .const) (Zq rfl (QW.move (.tmp rfl)) (Zg rfl (fun hg => (QW.field_ptr fo29_0 (.tmp rfl) rfl)) (Zg rfl (fun hg => (QW.load_box1 0 ty3 (.when rfl hg) rfl rfl)) (Zg rfl (fun hg => (QW.neq (.when rfl hg) .const)) ?_)))))))))
  refine Zq rfl (QW.pick_and (.tmp rfl) (.tmp rfl)) (Zq rfl (QW.move (.tmp rfl)) (Zg rfl (fun hg => (QW.field_ptr fo29_1 (.tmp rfl) rfl)) (Zg rfl (fun hg => (QW.load_box1 0 ty22 (.when rfl hg) rfl rfl)) (Zg rfl (fun hg => (QW.neq (.when rfl hg) .const)) (Zq rfl (QW.pick_and (.tmp rfl) (.tmp rfl)) (Zq rfl (QW.assign (.tmp rfl)) (Zn ?_)))))))
  refine J.cond (.tmp rfl) (fun c1 => ?_) (fun c1 => ?_)
  · skip
    exact J.skip (blkQ.n (thenQ.n (Zs (Zq rfl (QW.assign .const) (Zn (J.ret (Zr [.k] (RetEv.one rfl (REv.tmp rfl lr)) rfl ⟨by simp only [bareOk]; congr 2; simp [V.css_length, keysAV_length] at *; grind, rfl⟩)))))))
  refine Zs (Zq rfl (QW.field_ptr fo29_0 (.tmp rfl) rfl) (Zq rfl (QW.load_box1 0 ty3 (.tmp rfl) rfl rfl) (Zq rfl (QW.neq (.tmp rfl) .const) (Zq rfl (QW.move (.tmp rfl)) (Zg rfl (fun hg => (QW.field_ptr fo29_2 (.tmp rfl) rfl)) (Zg rfl (fun hg => (QW.load_box1 0 ty9 (.when rfl hg) rfl rfl)) (Zg rfl (fun hg => (QW.neq_s (.when rfl hg) .const)) (Zq rfl (QW.pick_and (.tmp rfl) (.tmp rfl)) (Zq rfl (QW.assign (.tmp rfl)) ?_)))))))))
  refine Zn ?_
  refine J.cond (.tmp rfl) (fun c2 => ?_) (fun c2 => ?_)
  · skip
    exact J.skip (blkQ.n (thenQ.n (Zs (Zq rfl (QW.assign .const) (Zn (J.ret (Zr [.k] (RetEv.one rfl (REv.tmp rfl lr)) rfl ⟨by simp only [bareOk]; congr 2; simp [V.css_length, keysAV_length] at *; grind, rfl⟩)))))))
  refine Zs (Zq rfl (QW.field_ptr fo29_0 (.tmp rfl) rfl) (Zq rfl (QW.load_box1 0 ty3 (.tmp rfl) rfl rfl) (Zq rfl (QW.neq (.tmp rfl) .const) (Zq rfl (QW.move (.tmp rfl)) (Zg rfl (fun hg => (QW.field_ptr fo29_3 (.tmp rfl) rfl)) (Zg rfl (fun hg => (QW.load_box1 0 ty26 (.when rfl hg) rfl rfl)) (Zg rfl (fun hg => (QW.len_sl sl26 (.when rfl hg))) (Zg rfl (fun hg => (QW.gtr (.when rfl hg) .const)) (Zq rfl (QW.pick_and (.tmp rfl) (.tmp rfl)) ?_)))))))))
  refine Zq rfl (QW.assign (.tmp rfl)) (Zn ?_)
  refine J.cond (.tmp rfl) (fun c3 => ?_) (fun c3 => ?_)
  · skip
    exact J.skip (blkQ.n (thenQ.n (Zs (Zq rfl (QW.assign .const) (Zn (J.ret (Zr [.k] (RetEv.one rfl (REv.tmp rfl lr)) rfl ⟨by simp only [bareOk]; congr 2; simp [V.css_length, keysAV_length] at *; grind, rfl⟩)))))))
  refine Zs (Zq rfl (QW.move (.tmp rfl)) (Zq rfl (QW.move (.tmp rfl)) (Zg rfl (fun hg => (QW.field_ptr fo29_0 (.tmp rfl) rfl)) (Zg rfl (fun hg => (QW.load_box1 0 ty3 (.when rfl hg) rfl rfl)) (Zg rfl (fun hg => (QW.eql (.when rfl hg) .const)) (Zq rfl (QW.pick_or (.tmp rfl) (.tmp rfl)) (Zq rfl (QW.move (.tmp rfl)) (Zg rfl (fun hg => (QW.field_ptr fo29_4 (.tmp rfl) rfl)) (Zg rfl (fun hg => (QW.load_box1 0 ty27 (.when rfl hg) rfl rfl)) ?_)))))))))
  refine Zg rfl (fun hg => (QW.len_sl sl27 (.when rfl hg))) (Zg rfl (fun hg => (QW.gtr (.when rfl hg) .const)) (Zq rfl (QW.pick_and (.tmp rfl) (.tmp rfl)) (Zq rfl (QW.assign (.tmp rfl)) (Zn ?_))))
  refine J.cond (.tmp rfl) (fun c4 => ?_) (fun c4 => ?_)
  · skip
    exact J.skip (blkQ.n (thenQ.n (Zs (Zq rfl (QW.assign .const) (Zn (J.ret (Zr [.k] (RetEv.one rfl (REv.tmp rfl lr)) rfl ⟨by simp only [bareOk]; congr 2; simp [V.css_length, keysAV_length] at *; grind, rfl⟩)))))))
  exact Zs (Zq rfl (QW.assign .const) (Zn (J.ret (blkQ.r (thenQ.r (Zr [.k] (RetEv.one rfl (REv.tmp rfl lr)) rfl ⟨by simp only [bareOk]; congr 2; simp [V.css_length, keysAV_length] at *; grind, rfl⟩))))))
theorem part_ok {fr : Bool} {v : V} {ys : List AV} (hv : Vc fr v ys) (hw : v.wf) : Fn Tryz.prog 59 [.agg ys] (.c (.bool (partOk v))) := by
  obtain ⟨k, b, t, ks, is⟩ := v
  subst hv
  obtain ⟨-, -, -, hk16, -, -, -⟩ := hw.inv
  refine AC.of_J Tryz.func59 rfl Tryz.ntmps59 rfl fun w0 A0 => ?_
  refine Zs (JL.box_agg (.tmp rfl) rfl fun b1 => Zq rfl (QW.assign .const) (Zn (J.seq (Zs (Zq rfl (QW.load_box 0 ty29 (.tmp rfl) rfl rfl rfl) (Zq rfl (QW.call gofn86 (.cons (.tmp rfl) .nil) (bare_ok Vc.mk)) (Zq rfl (QW.not (.tmp rfl)) (Zq rfl (QW.move (.tmp rfl)) ?_))))))))
  refine Zg rfl (fun hg => (QW.field_ptr fo29_4 (.tmp rfl) rfl)) (Zg rfl (fun hg => (QW.load_box1 0 ty27 (.when rfl hg) rfl rfl)) (Zg rfl (fun hg => (QW.len_sl sl27 (.when rfl hg))) (Zg rfl (fun hg => (QW.gtr (.when rfl hg) .const)) (Zq rfl (QW.pick_or (.tmp rfl) (.tmp rfl)) (Zn ?_)))))
  refine J.cond (.tmp rfl) (fun c1 => ?_) (fun c1 => ?_)
  · skip
    exact Zs (Zq rfl (QW.assign .const) (Zn (J.ret (thenQ.r (Zr [.k] (RetEv.one rfl (REv.tmp rfl lr)) rfl ⟨by simp only [partOk]; congr 2; simp [V.css_length, keysAV_length, bareOk] at *; grind, rfl⟩)))))
  refine Zk (J.seq (Zs (Zq rfl (QW.field_ptr fo29_0 (.tmp rfl) rfl) (Zq rfl (QW.load_box1 0 ty3 (.tmp rfl) rfl rfl) (Zn (J.block (J.seq (Zs (Zq rfl (QW.eql (.tmp rfl) .const) ?_)))))))))
  refine Zq rfl (QW.assign (.tmp rfl)) (Zn ?_)
  refine J.cond (.tmp rfl) (fun c2 => ?_) (fun c2 => ?_)
  · skip
    refine Zk ?_
    refine J.cond (.tmp rfl) (fun c3 => ?_) (fun c3 => ?_)
    · skip
      exact Zs (Zq rfl (QW.assign .const) (Zn (J.ret (blkQ.r (thenQ.r (Zr [.k] (RetEv.one rfl (REv.tmp rfl lr)) rfl ⟨by simp only [partOk]; congr 2; simp [V.css_length, keysAV_length, bareOk] at *; grind, rfl⟩))))))
    refine Zs (Zq rfl (QW.eql (.tmp rfl) .const) (Zq rfl (QW.assign (.tmp rfl)) (Zn ?_)))
    refine J.cond (.tmp rfl) (fun c4 => ?_) (fun c4 => ?_)
    · skip
      exact Zs (Zq rfl (QW.field_ptr fo29_1 (.tmp rfl) rfl) (Zq rfl (QW.load_box1 0 ty22 (.tmp rfl) rfl rfl) (Zq rfl (QW.leq (.tmp rfl) .const) (Zq rfl (QW.assign (.tmp rfl)) (Zn (J.ret (blkQ.r (thenQ.r (Zr [.k] (RetEv.one rfl (REv.tmp rfl lr)) rfl ⟨by simp only [partOk]; congr 2; simp [V.css_length, keysAV_length, bareOk] at *; grind, rfl⟩)))))))))
    refine Zs (Zq rfl (QW.eql (.tmp rfl) .const) (Zq rfl (QW.assign (.tmp rfl)) (Zn ?_)))
    refine J.cond (.tmp rfl) (fun c5 => ?_) (fun c5 => ?_)
    · skip
      refine J.seq (J.region_tailK 5 mixed (by kernel_rfl) (by kernel_rfl) (by kernel_rfl) rfl ?_)
      refine .cons [] rfl rfl rfl (.q rfl (QW.field_ptr fo29_1 (.tmp rfl) rfl)) ?_
      refine .cons [24] rfl rfl rfl (.q rfl (QW.load_box1 0 ty22 (.tmp rfl) rfl rfl)) ?_
      refine .cons [25] rfl rfl rfl (.q rfl (QW.call gofn87 (.cons (.tmp rfl) .nil) (canon_ok _))) ?_
      refine .cons [] rfl rfl rfl (.q rfl (QW.field_ptr fo29_1 (.tmp rfl) rfl)) ?_
      refine .cons [27] rfl rfl rfl (.q rfl (QW.load_box1 0 ty22 (.tmp rfl) rfl rfl)) ?_
      refine .nil ?_
      exact Zq rfl (QW.eql (.tmp rfl) (.tmp rfl)) (Zq rfl (QW.assign (.tmp rfl)) (Zn (J.ret (blkQ.r (thenQ.r (Zr [.k] (RetEv.one rfl (REv.tmp rfl lr)) rfl ⟨by simp only [partOk]; congr 2; simp [V.css_length, keysAV_length, bareOk] at *; grind, rfl⟩))))))
    refine Zs (Zq rfl (QW.eql (.tmp rfl) .const) (Zq rfl (QW.assign (.tmp rfl)) (Zn ?_)))
    refine J.cond (.tmp rfl) (fun c6 => ?_) (fun c6 => ?_)
    · skip
      exact Zs (Zq rfl (QW.field_ptr fo29_2 (.tmp rfl) rfl) (Zq rfl (QW.load_box1 0 ty9 (.tmp rfl) rfl rfl) (Zq rfl (QW.len_s st9 (.tmp rfl)) (Zq rfl (QW.leq (.tmp rfl) .const) (Zq rfl (QW.assign (.tmp rfl)) (Zn (J.ret (blkQ.r (thenQ.r (Zr [.k] (RetEv.one rfl (REv.tmp rfl lr)) rfl ⟨by simp only [partOk]; congr 2; simp [V.css_length, keysAV_length, bareOk] at *; grind, rfl⟩))))))))))
    refine Zs (Zq rfl (QW.eql (.tmp rfl) .const) (Zq rfl (QW.assign (.tmp rfl)) (Zn ?_)))
    refine J.cond (.tmp rfl) (fun c7 => ?_) (fun c7 => ?_)
    · skip
      refine Zs (Zq rfl (QW.field_ptr fo29_3 (.tmp rfl) rfl) (Zq rfl (QW.load_box1 0 ty26 (.tmp rfl) rfl rfl) (Zq rfl (QW.len_sl sl26 (.tmp rfl)) (Zq rfl (QW.field_ptr fo29_4 (.tmp rfl) rfl) (Zq rfl (QW.load_box1 0 ty27 (.tmp rfl) rfl rfl) (Zq rfl (QW.len_sl sl27 (.tmp rfl)) (Zq rfl (QW.eql (.tmp rfl) (.tmp rfl)) (Zq rfl (QW.move (.tmp rfl)) (Zg rfl (fun hg => (QW.field_ptr fo29_3 (.tmp rfl) rfl)) ?_)))))))))
      refine Zg rfl (fun hg => (QW.load_box1 0 ty26 (.when rfl hg) rfl rfl)) (Zg rfl (fun hg => (QW.call gofn88 (.cons (.when rfl hg) .nil) (keys_ok _ _ (by unfold reach at *; omega)))) ?_)
      exact Zq rfl (QW.pick_and (.tmp rfl) (.tmp rfl)) (Zq rfl (QW.assign (.tmp rfl)) (Zn (J.ret (blkQ.r (thenQ.r (Zr [.k] (RetEv.one rfl (REv.tmp rfl lr)) rfl ⟨by simp only [partOk]; congr 2; simp [V.css_length, keysAV_length, bareOk] at *; grind, rfl⟩))))))
    exact J.skip (blkQ.n (thenQ.n (Zs (Zq rfl (QW.assign .const) (Zn (J.ret (Zr [.k] (RetEv.one rfl (REv.tmp rfl lr)) rfl ⟨by simp only [partOk]; congr 2; simp [V.css_length, keysAV_length, bareOk] at *; grind, rfl⟩)))))))
  refine J.region_lit (Zq rfl (QW.eql (.tmp rfl) .const) (Zq rfl (QW.assign (.tmp rfl)) (Zn ?_)))
  refine J.cond (.tmp rfl) (fun c3 => ?_) (fun c3 => ?_)
  · skip
    exact Zs (Zq rfl (QW.assign .const) (Zn (J.ret (blkQ.r (thenQ.r (Zr [.k] (RetEv.one rfl (REv.tmp rfl lr)) rfl ⟨by simp only [partOk]; congr 2; simp [V.css_length, keysAV_length, bareOk] at *; grind, rfl⟩))))))
  refine Zs (Zq rfl (QW.eql (.tmp rfl) .const) (Zq rfl (QW.assign (.tmp rfl)) (Zn ?_)))
  refine J.cond (.tmp rfl) (fun c4 => ?_) (fun c4 => ?_)
  · skip
    exact Zs (Zq rfl (QW.field_ptr fo29_1 (.tmp rfl) rfl) (Zq rfl (QW.load_box1 0 ty22 (.tmp rfl) rfl rfl) (Zq rfl (QW.leq (.tmp rfl) .const) (Zq rfl (QW.assign (.tmp rfl)) (Zn (J.ret (blkQ.r (thenQ.r (Zr [.k] (RetEv.one rfl (REv.tmp rfl lr)) rfl ⟨by simp only [partOk]; congr 2; simp [V.css_length, keysAV_length, bareOk] at *; grind, rfl⟩)))))))))
  refine Zs (Zq rfl (QW.eql (.tmp rfl) .const) (Zq rfl (QW.assign (.tmp rfl)) (Zn ?_)))
  refine J.cond (.tmp rfl) (fun c5 => ?_) (fun c5 => ?_)
  · skip
    refine J.seq (J.region_tailK 5 mixed (by kernel_rfl) (by kernel_rfl) (by kernel_rfl) rfl ?_)
    refine .cons [] rfl rfl rfl (.q rfl (QW.field_ptr fo29_1 (.tmp rfl) rfl)) ?_
    refine .cons [24] rfl rfl rfl (.q rfl (QW.load_box1 0 ty22 (.tmp rfl) rfl rfl)) ?_
    refine .cons [25] rfl rfl rfl (.q rfl (QW.call gofn87 (.cons (.tmp rfl) .nil) (canon_ok _))) ?_
    refine .cons [] rfl rfl rfl (.q rfl (QW.field_ptr fo29_1 (.tmp rfl) rfl)) ?_
    refine .cons [27] rfl rfl rfl (.q rfl (QW.load_box1 0 ty22 (.tmp rfl) rfl rfl)) ?_
    refine .nil ?_
    exact Zq rfl (QW.eql (.tmp rfl) (.tmp rfl)) (Zq rfl (QW.assign (.tmp rfl)) (Zn (J.ret (blkQ.r (thenQ.r (Zr [.k] (RetEv.one rfl (REv.tmp rfl lr)) rfl ⟨by simp only [partOk]; congr 2; simp [V.css_length, keysAV_length, bareOk] at *; grind, rfl⟩))))))
  refine Zs (Zq rfl (QW.eql (.tmp rfl) .const) (Zq rfl (QW.assign (.tmp rfl)) (Zn ?_)))
  refine J.cond (.tmp rfl) (fun c6 => ?_) (fun c6 => ?_)
  · skip
    exact Zs (Zq rfl (QW.field_ptr fo29_2 (.tmp rfl) rfl) (Zq rfl (QW.load_box1 0 ty9 (.tmp rfl) rfl rfl) (Zq rfl (QW.len_s st9 (.tmp rfl)) (Zq rfl (QW.leq (.tmp rfl) .const) (Zq rfl (QW.assign (.tmp rfl)) (Zn (J.ret (blkQ.r (thenQ.r (Zr [.k] (RetEv.one rfl (REv.tmp rfl lr)) rfl ⟨by simp only [partOk]; congr 2; simp [V.css_length, keysAV_length, bareOk] at *; grind, rfl⟩))))))))))
  refine Zs (Zq rfl (QW.eql (.tmp rfl) .const) (Zq rfl (QW.assign (.tmp rfl)) (Zn ?_)))
  refine J.cond (.tmp rfl) (fun c7 => ?_) (fun c7 => ?_)
  · skip
    refine Zs (Zq rfl (QW.field_ptr fo29_3 (.tmp rfl) rfl) (Zq rfl (QW.load_box1 0 ty26 (.tmp rfl) rfl rfl) (Zq rfl (QW.len_sl sl26 (.tmp rfl)) (Zq rfl (QW.field_ptr fo29_4 (.tmp rfl) rfl) (Zq rfl (QW.load_box1 0 ty27 (.tmp rfl) rfl rfl) (Zq rfl (QW.len_sl sl27 (.tmp rfl)) (Zq rfl (QW.eql (.tmp rfl) (.tmp rfl)) (Zq rfl (QW.move (.tmp rfl)) (Zg rfl (fun hg => (QW.field_ptr fo29_3 (.tmp rfl) rfl)) ?_)))))))))
    refine Zg rfl (fun hg => (QW.load_box1 0 ty26 (.when rfl hg) rfl rfl)) (Zg rfl (fun hg => (QW.call gofn88 (.cons (.when rfl hg) .nil) (keys_ok _ _ (by unfold reach at *; omega)))) ?_)
    exact Zq rfl (QW.pick_and (.tmp rfl) (.tmp rfl)) (Zq rfl (QW.assign (.tmp rfl)) (Zn (J.ret (blkQ.r (thenQ.r (Zr [.k] (RetEv.one rfl (REv.tmp rfl lr)) rfl ⟨by simp only [partOk]; congr 2; simp [V.css_length, keysAV_length, bareOk] at *; grind, rfl⟩))))))
  exact J.skip (blkQ.n (thenQ.n (Zs (Zq rfl (QW.assign .const) (Zn (J.ret (Zr [.k] (RetEv.one rfl (REv.tmp rfl lr)) rfl ⟨by simp only [partOk]; congr 2; simp [V.css_length, keysAV_length, bareOk] at *; grind, rfl⟩)))))))
end Go.Proofs.YtjhonjdhanlbkaaGreat.J

/- Walks: the page's own part of a value; both walks over a value. -/
namespace Go.Proofs.YtjhonjdhanlbkaaGreat.J
open Go Go.RowKit
set_option maxRecDepth 10000
set_option maxHeartbeats 4000000
theorem part5 (b : Nat) (t : Str) (ks : List Str) (is : List V) : partOk (.mk 5 b t ks is) = (b == 0 && t == [] && decide (is.length ≤ 32) && ks.length == is.length && keysOk ks) := by simp [partOk]
theorem gtr_less (a b : List UInt8) : (!(Op.bytesLess a b || a == b)) = Op.bytesLess b a := by rw [bytesLess_tri]; simp
theorem rpart_ok {fr : Bool} {v : V} {ys : List AV} (hv : Vc fr v ys) (hw : v.wf) : Fn Tryz.prog 39 [.agg ys] (.c (.bool (partOk v))) := by
  obtain ⟨k, b, t, ks, is⟩ := v
  subst hv
  obtain ⟨-, hb64, -, hk16, -, -, -⟩ := hw.inv
  have hk64 : ks.length ≤ 9223372036854775806 := by unfold reach at hk16; omega
  refine AC.of_J Tryz.func39 rfl Tryz.ntmps39 rfl fun w0 A0 => ?_
  refine Zs (JL.box_agg (.tmp rfl) rfl fun b1 => Zq rfl (QW.assign .const) (Zn (J.seq (J.region_tailK 17 mixed (by kernel_rfl) (by kernel_rfl) (by kernel_rfl) rfl ?_))))
  refine .cons [] rfl rfl rfl (.q rfl (QW.field_ptr fo29_1 (.tmp rfl) rfl)) ?_
  refine .cons [9] rfl rfl rfl (.q rfl (QW.load_box1 0 ty22 (.tmp rfl) rfl rfl)) ?_
  refine .cons [10] rfl rfl rfl (.q rfl (QW.eql (.tmp rfl) .const)) ?_
  refine .cons [] rfl rfl rfl (.q rfl (QW.field_ptr fo29_2 (.tmp rfl) rfl)) ?_
  refine .cons [12] rfl rfl rfl (.q rfl (QW.load_box1 0 ty9 (.tmp rfl) rfl rfl)) ?_
  refine .cons [13] rfl rfl rfl (.q rfl (QW.eql_s (.tmp rfl) .const)) ?_
  refine .cons [] rfl rfl rfl (.q rfl (QW.field_ptr fo29_3 (.tmp rfl) rfl)) ?_
  refine .cons [15] rfl rfl rfl (.q rfl (QW.load_box1 0 ty26 (.tmp rfl) rfl rfl)) ?_
  refine .cons [16] rfl rfl rfl (.q rfl (QW.len_sl sl26 (.tmp rfl))) ?_
  refine .cons [17] rfl rfl rfl (.q rfl (QW.eql (.tmp rfl) .const)) ?_
  refine .cons [] rfl rfl rfl (.q rfl (QW.field_ptr fo29_4 (.tmp rfl) rfl)) ?_
  refine .cons [19] rfl rfl rfl (.q rfl (QW.load_box1 0 ty27 (.tmp rfl) rfl rfl)) ?_
  refine .cons [20] rfl rfl rfl (.q rfl (QW.len_sl sl27 (.tmp rfl))) ?_
  refine .cons [21] rfl rfl rfl (.q rfl (QW.eql (.tmp rfl) .const)) ?_
  refine .cons [11] rfl rfl rfl (.q rfl (QW.assign (.tmp rfl))) ?_
  refine .cons [14] rfl rfl rfl (.q rfl (QW.assign (.tmp rfl))) ?_
  refine .cons [18] rfl rfl rfl (.q rfl (QW.assign (.tmp rfl))) ?_
  refine .nil ?_
  refine Zq rfl (QW.assign (.tmp rfl)) (Zn (J.seq (Zs (Zq rfl (QW.field_ptr fo29_0 (.tmp rfl) rfl) (Zq rfl (QW.load_box1 0 ty3 (.tmp rfl) rfl rfl) (Zn (J.block (Zs (Zq rfl (QW.eql (.tmp rfl) .const) ?_)))))))))
  refine Zq rfl (QW.assign (.tmp rfl)) (Zn ?_)
  refine J.cond (.tmp rfl) (fun c1 => ?_) (fun c1 => ?_)
  · skip
    refine Zs (Zq rfl (QW.move (.tmp rfl)) (Zq rfl (QW.move (.tmp rfl)) (Zg rfl (fun hg => (QW.move (.tmp rfl))) (Zq rfl (QW.pick_and (.tmp rfl) (.tmp rfl)) (Zq rfl (QW.move (.tmp rfl)) (Zg rfl (fun hg => (QW.move (.tmp rfl))) (Zq rfl (QW.pick_and (.tmp rfl) (.tmp rfl)) (Zq rfl (QW.move (.tmp rfl)) (Zg rfl (fun hg => (QW.move (.tmp rfl))) ?_)))))))))
    exact Zq rfl (QW.pick_and (.tmp rfl) (.tmp rfl)) (Zq rfl (QW.assign (.tmp rfl)) (Zn (J.ret (blkQ.r (thenQ.r (Zr [.k] (RetEv.one rfl (REv.tmp rfl lr)) rfl ⟨ret_b (by simp [partOk, V.css_length, keysAV_length] at *; grind), rfl⟩))))))
  refine Zs (Zq rfl (QW.eql (.tmp rfl) .const) (Zq rfl (QW.assign (.tmp rfl)) (Zn ?_)))
  refine J.cond (.tmp rfl) (fun c2 => ?_) (fun c2 => ?_)
  · skip
    refine Zs (Zq rfl (QW.field_ptr fo29_1 (.tmp rfl) rfl) (Zq rfl (QW.load_box1 0 ty22 (.tmp rfl) rfl rfl) (Zq rfl (QW.leq (.tmp rfl) .const) (Zq rfl (QW.move (.tmp rfl)) (Zg rfl (fun hg => (QW.move (.tmp rfl))) (Zq rfl (QW.pick_and (.tmp rfl) (.tmp rfl)) (Zq rfl (QW.move (.tmp rfl)) (Zg rfl (fun hg => (QW.move (.tmp rfl))) (Zq rfl (QW.pick_and (.tmp rfl) (.tmp rfl)) ?_)))))))))
    exact Zq rfl (QW.move (.tmp rfl)) (Zg rfl (fun hg => (QW.move (.tmp rfl))) (Zq rfl (QW.pick_and (.tmp rfl) (.tmp rfl)) (Zq rfl (QW.assign (.tmp rfl)) (Zn (J.ret (blkQ.r (thenQ.r (Zr [.k] (RetEv.one rfl (REv.tmp rfl lr)) rfl ⟨ret_b (by simp [partOk, V.css_length, keysAV_length] at *; grind), rfl⟩))))))))
  refine Zs (Zq rfl (QW.eql (.tmp rfl) .const) (Zq rfl (QW.assign (.tmp rfl)) (Zn ?_)))
  refine J.cond (.tmp rfl) (fun c3 => ?_) (fun c3 => ?_)
  · skip
    refine J.seq (J.region_tailK 5 mixed (by kernel_rfl) (by kernel_rfl) (by kernel_rfl) rfl ?_)
    refine .cons [] rfl rfl rfl (.q rfl (QW.field_ptr fo29_1 (.tmp rfl) rfl)) ?_
    refine .cons [53] rfl rfl rfl (.q rfl (QW.load_box1 0 ty22 (.tmp rfl) rfl rfl)) ?_
    refine .cons [54] rfl rfl rfl (.q rfl (QW.call gofn62 (.cons (.tmp rfl) .nil) (rcanon_ok _ (by assumption)))) ?_
    refine .cons [] rfl rfl rfl (.q rfl (QW.field_ptr fo29_1 (.tmp rfl) rfl)) ?_
    refine .cons [56] rfl rfl rfl (.q rfl (QW.load_box1 0 ty22 (.tmp rfl) rfl rfl)) ?_
    refine .nil ?_
    refine Zq rfl (QW.eql (.tmp rfl) (.tmp rfl)) (Zq rfl (QW.move (.tmp rfl)) (Zg rfl (fun hg => (QW.move (.tmp rfl))) (Zq rfl (QW.pick_and (.tmp rfl) (.tmp rfl)) (Zq rfl (QW.move (.tmp rfl)) (Zg rfl (fun hg => (QW.move (.tmp rfl))) (Zq rfl (QW.pick_and (.tmp rfl) (.tmp rfl)) (Zq rfl (QW.move (.tmp rfl)) (Zg rfl (fun hg => (QW.move (.tmp rfl))) (Zq rfl (QW.pick_and (.tmp rfl) (.tmp rfl)) ?_)))))))))
    exact Zq rfl (QW.assign (.tmp rfl)) (Zn (J.ret (blkQ.r (thenQ.r (Zr [.k] (RetEv.one rfl (REv.tmp rfl lr)) rfl ⟨ret_b (by simp [partOk, V.css_length, keysAV_length] at *; grind), rfl⟩)))))
  refine Zs (Zq rfl (QW.eql (.tmp rfl) .const) (Zq rfl (QW.assign (.tmp rfl)) (Zn ?_)))
  refine J.cond (.tmp rfl) (fun c4 => ?_) (fun c4 => ?_)
  · skip
    refine Zs (Zq rfl (QW.move (.tmp rfl)) (Zq rfl (QW.move (.tmp rfl)) (Zg rfl (fun hg => (QW.field_ptr fo29_2 (.tmp rfl) rfl)) (Zg rfl (fun hg => (QW.load_box1 0 ty9 (.when rfl hg) rfl rfl)) (Zg rfl (fun hg => (QW.len_s st9 (.when rfl hg))) (Zg rfl (fun hg => (QW.leq (.when rfl hg) .const)) (Zq rfl (QW.pick_and (.tmp rfl) (.tmp rfl)) (Zq rfl (QW.move (.tmp rfl)) (Zg rfl (fun hg => (QW.move (.tmp rfl))) ?_)))))))))
    exact Zq rfl (QW.pick_and (.tmp rfl) (.tmp rfl)) (Zq rfl (QW.move (.tmp rfl)) (Zg rfl (fun hg => (QW.move (.tmp rfl))) (Zq rfl (QW.pick_and (.tmp rfl) (.tmp rfl)) (Zq rfl (QW.assign (.tmp rfl)) (Zn (J.ret (blkQ.r (thenQ.r (Zr [.k] (RetEv.one rfl (REv.tmp rfl lr)) rfl ⟨ret_b (by simp [partOk, V.css_length, keysAV_length] at *; grind), rfl⟩)))))))))
  refine Zs (Zq rfl (QW.eql (.tmp rfl) .const) (Zq rfl (QW.assign (.tmp rfl)) (Zn ?_)))
  refine J.cond (.tmp rfl) (fun c5 => ?_) (fun c5 => ?_)
  · skip
    refine Zs (Zq rfl (QW.move (.tmp rfl)) (Zq rfl (QW.move (.tmp rfl)) (Zg rfl (fun hg => (QW.move (.tmp rfl))) (Zq rfl (QW.pick_and (.tmp rfl) (.tmp rfl)) (Zq rfl (QW.move (.tmp rfl)) (Zg rfl (fun hg => (QW.move (.tmp rfl))) (Zq rfl (QW.pick_and (.tmp rfl) (.tmp rfl)) (Zq rfl (QW.move (.tmp rfl)) (Zg rfl (fun hg => (QW.field_ptr fo29_4 (.tmp rfl) rfl)) ?_)))))))))
    exact Zg rfl (fun hg => (QW.load_box1 0 ty27 (.when rfl hg) rfl rfl)) (Zg rfl (fun hg => (QW.len_sl sl27 (.when rfl hg))) (Zg rfl (fun hg => (QW.leq (.when rfl hg) .const)) (Zq rfl (QW.pick_and (.tmp rfl) (.tmp rfl)) (Zq rfl (QW.assign (.tmp rfl)) (Zn (J.ret (blkQ.r (thenQ.r (Zr [.k] (RetEv.one rfl (REv.tmp rfl lr)) rfl ⟨ret_b (by simp [partOk, V.css_length, keysAV_length] at *; grind), rfl⟩)))))))))
  refine Zs (Zq rfl (QW.eql (.tmp rfl) .const) (Zq rfl (QW.assign (.tmp rfl)) (Zn ?_)))
  refine J.cond (.tmp rfl) (fun c6 => ?_) (fun c6 => ?_)
  · skip
    refine Zs (Zq rfl (QW.move (.tmp rfl)) (Zq rfl (QW.move (.tmp rfl)) (Zg rfl (fun hg => (QW.move (.tmp rfl))) (Zq rfl (QW.pick_and (.tmp rfl) (.tmp rfl)) (Zq rfl (QW.move (.tmp rfl)) (Zg rfl (fun hg => (QW.field_ptr fo29_4 (.tmp rfl) rfl)) (Zg rfl (fun hg => (QW.load_box1 0 ty27 (.when rfl hg) rfl rfl)) (Zg rfl (fun hg => (QW.len_sl sl27 (.when rfl hg))) (Zg rfl (fun hg => (QW.leq (.when rfl hg) .const)) ?_)))))))))
    refine Zq rfl (QW.pick_and (.tmp rfl) (.tmp rfl)) (Zq rfl (QW.move (.tmp rfl)) (Zg rfl (fun hg => (QW.field_ptr fo29_3 (.tmp rfl) rfl)) (Zg rfl (fun hg => (QW.load_box1 0 ty26 (.when rfl hg) rfl rfl)) (Zg rfl (fun hg => (QW.len_sl sl26 (.when rfl hg))) (Zg rfl (fun hg => (QW.field_ptr fo29_4 (.tmp rfl) rfl)) (Zg rfl (fun hg => (QW.load_box1 0 ty27 (.when rfl hg) rfl rfl)) (Zg rfl (fun hg => (QW.len_sl sl27 (.when rfl hg))) (Zg rfl (fun hg => (QW.eql (.when rfl hg) (.when rfl hg))) (Zq rfl (QW.pick_and (.tmp rfl) (.tmp rfl)) ?_)))))))))
    refine Zq rfl (QW.assign (.tmp rfl)) (Zn (J.seq (Zs (Zq rfl (QW.assign .const) (Zn (J.block (J.loopK (ι := Nat × Bool) [1, 2] (fun ⟨j, ok⟩ => [(7, .c (.bool ok)), (8, .c (.int .i64 (j : Int)))]) (fun _ oo => oo) (fun ⟨j, ok⟩ => j ≤ ks.length ∧ (ok = true → (b == 0 && t == [] && decide (is.length ≤ 32) && ks.length == is.length && (List.range j).all (keyAt ks)) = true) ∧ (ok = false → (b == 0 && t == [] && decide (is.length ≤ 32) && ks.length == is.length && keysOk ks) = false)) (fun ⟨j, ok⟩ => ks.length - j) ⟨0, _⟩ (⟨Nat.zero_le _, by simp [V.css_length, keysAV_length]; grind, by simp [V.css_length, keysAV_length]; grind⟩) (Wk.re (.cons rfl lr (.cons rfl lr (.cons rfl lr (.cons rfl lr .nil)))) (Reown.refl _) (fun _ h => by first | exact h | simp [h])) ?_)))))))
    intro ⟨j, ok⟩ ⟨hj, ht, hf⟩
    refine J.conv (by (try simp only [nl, stepsO, valO, nthO, curO, mrg, AV.cellsOf, splice_zero, splice_succ, Nat.reduceAdd]); rfl) ?_
    refine J.seq (Zs (Zq rfl (QW.move (.tmp rfl)) (Zq rfl (QW.move (.tmp rfl)) (Zg rfl (fun hg => (QW.move (.tmp rfl))) (Zg rfl (fun hg => (QW.field_ptr fo29_3 (.tmp rfl) rfl)) (Zg rfl (fun hg => (QW.load_box1 0 ty26 (.when rfl hg) rfl rfl)) (Zg rfl (fun hg => (QW.len_sl sl26 (.when rfl hg))) (Zg rfl (fun hg => (QW.lss (.when rfl hg) (.when rfl hg))) (Zq rfl (QW.pick_and (.tmp rfl) (.tmp rfl)) ?_)))))))))
    refine Zn ?_
    refine J.cond (.tmp rfl) (fun c7 => ?_) (fun c7 => ?_)
    · skip
      refine Zk (J.seq (J.block (J.region_tailK 21 mixed (by kernel_rfl) (by kernel_rfl) (by kernel_rfl) rfl ?_)))
      refine .cons [] rfl rfl rfl (.q rfl (QW.field_ptr fo29_3 (.tmp rfl) rfl)) ?_
      refine .cons [129] rfl rfl rfl (.q rfl (QW.load_box1 0 ty26 (.tmp rfl) rfl rfl)) ?_
      refine .cons [] rfl rfl rfl (.q rfl (QW.move (.tmp rfl))) ?_
      refine .cons [130, 131] rfl rfl rfl (.q rfl (QW.index_sl sl26 ty9 rfl (.tmp rfl) (.tmp rfl) rfl (by exact keysAV_getD (by simp [keysAV_length] at *; omega)))) ?_
      refine .cons [132] rfl rfl rfl (.q rfl (QW.load_ref1 ty9 (.tmp rfl) rfl)) ?_
      refine .cons [133] rfl rfl rfl (.q rfl (QW.call gofn63 (.cons (.tmp rfl) .nil) (rkey_ok _))) ?_
      refine .cons [134] rfl rfl rfl (.q rfl (QW.move (.tmp rfl))) ?_
      refine .cons [135] rfl rfl rfl (.g rfl rfl rfl (fun hg => (QW.move (.tmp rfl)))) ?_
      refine .cons [136, 135] rfl rfl rfl (.g rfl rfl rfl (fun hg => (QW.eql (.when rfl hg) .const))) ?_
      refine .cons [137, 135] rfl rfl rfl (.g rfl rfl rfl (fun hg => (QW.move (.when rfl hg)))) ?_
      refine .cons [138] rfl rfl rfl (.gg rfl rfl rfl (fun hg => (QW.field_ptr fo29_3 (.tmp rfl) rfl))) ?_
      refine .cons [139, 138] rfl rfl rfl (.gg rfl rfl rfl (fun hg => (QW.load_box1 0 ty26 (.when rfl hg) rfl rfl))) ?_
      refine .cons [138] rfl rfl rfl (.gg rfl rfl rfl (fun hg => (QW.move (.tmp rfl)))) ?_
      refine .cons [140, 141, 138] rfl rfl rfl (.gg rfl rfl rfl (fun hg => (QW.index_sl sl26 ty9 rfl (.when rfl hg) (.when rfl hg) rfl (by exact keysAV_getD (by simp [keysAV_length] at *; omega))))) ?_
      refine .cons [142, 138] rfl rfl rfl (.gg rfl rfl rfl (fun hg => (QW.load_ref1 ty9 (.when rfl hg) rfl))) ?_
      refine .cons [138] rfl rfl rfl (.gg rfl rfl rfl (fun hg => (QW.field_ptr fo29_3 (.tmp rfl) rfl))) ?_
      refine .cons [144, 138] rfl rfl rfl (.gg rfl rfl rfl (fun hg => (QW.load_box1 0 ty26 (.when rfl hg) rfl rfl))) ?_
      refine .cons [138] rfl rfl rfl (.gg rfl rfl rfl (fun hg => (QW.move (.tmp rfl)))) ?_
      refine .cons [146, 138] rfl rfl rfl (.gg rfl rfl rfl (fun hg => (QW.sub (c := ((j - 1 : Nat) : Int)) (.when rfl hg) .const (w64n (by simp at hg; omega) (by omega))))) ?_
      refine .cons [145, 147, 138] rfl rfl rfl (.gg rfl rfl rfl (fun hg => (QW.index_sl (m := j - 1) sl26 ty9 rfl (.when rfl hg) (.when rfl hg) rfl (keysAV_getD (by simp [keysAV_length] at *; omega))))) ?_
      refine .cons [148, 138] rfl rfl rfl (.gg rfl rfl rfl (fun hg => (QW.load_ref1 ty9 (.when rfl hg) rfl))) ?_
      refine .nil ?_
      refine JL.gg rfl rfl rfl rfl rfl (fun hg => (QW.gtr_s (.when rfl hg) (.when rfl hg))) (Zg rfl (fun hg => (QW.pick_or2 hg (.when rfl hg) (.tmp rfl))) (Zq rfl (QW.pick_and (.tmp rfl) (.tmp rfl)) (Zq rfl (QW.assign (.tmp rfl)) (JL.nil (blkQ.n (thenQ.n (J.region_lit (Zq rfl (QW.move (.tmp rfl)) (Zq rfl (QW.add (.tmp rfl) .const (w64 (by omega))) ?_)))))))))
      refine Zq rfl (QW.assign (.tmp rfl)) (Zn ?_)
      obtain ⟨hok, hlt⟩ : ok = true ∧ j < ks.length := by simpa [keysAV_length] using c7
      subst hok
      have ht := ht rfl
      simp only [Bool.and_eq_true] at ht
      exact ⟨⟨j + 1, keyAt ks j⟩, ⟨hlt, fun h => by simp only [Bool.and_eq_true]; exact ⟨ht.1, all_range_succ ht.2 h⟩, fun h => by rw [keysOk, all_range_false hlt h]; simp⟩, by show ks.length - (j + 1) < ks.length - j; omega, Wk.re (.cons rfl (Le.boolE (by simp only [keyAt, gtr_less]; congr 2; rw [Bool.eq_iff_iff]; simp)) (.cons rfl lr (.cons rfl lr (.cons rfl lr .nil)))) (Reown.refl _) (fun _ h => by first | exact h | simp [h])⟩
    refine J.exit (thenQ.x (thenQ.x (blkQ.hit (thenQ.n (Zs (Zq rfl (QW.move (.tmp rfl)) (Zq rfl (QW.assign (.tmp rfl)) (Zn (J.ret ?_)))))))))
    refine blkQ.r (thenQ.r ?_)
    obtain rfl : k = 5 := by simpa using c6
    have e : ok = partOk (.mk 5 b t ks is) := by
      rw [part5]
      cases ok with
      | false => exact (hf rfl).symm
      | true =>
        obtain rfl : j = ks.length := by simp [keysAV_length] at c7; omega
        exact (ht rfl).symm
    exact Zr [] (RetEv.one rfl (REv.tmp rfl lr)) rfl ⟨by rw [← e], rfl⟩
  exact J.skip (blkQ.n (thenQ.n (Zs (Zq rfl (QW.assign .const) (Zn (J.ret (Zr [.k] (RetEv.one rfl (REv.tmp rfl lr)) rfl ⟨ret_b (by simp [partOk, V.css_length, keysAV_length] at *; grind), rfl⟩)))))))
end Go.Proofs.YtjhonjdhanlbkaaGreat.J

/- Walks: errors that are panicked with, boxes of numbers. -/
namespace Go.Proofs.YtjhonjdhanlbkaaGreat.J
open Go Go.RowKit
set_option maxRecDepth 10000
set_option maxHeartbeats 4000000
theorem PanR.of {e e' : Int} {Rx : AV → List Own → Prop} (h : e' = e) (hn : ¬ e = 0) : PanR (e' = 0) (.iface 38 (.int .i64 e')) Rx (.pan (.iface 38 (.int .i64 e))) [] := by
  subst h; exact .pan hn
def errV (e : Int) : Value := .iface 38 (.int .i64 e)
def wk (b : Nat) (p d : Int) : Own := .box b [.c (.int .i64 p), .c (.int .i64 d)]
theorem zeroErrno (w : World) : (zeroValue 38).run Tryz.prog w = .ok (.int .i64 0) w := by kernel_rfl
def ibox (b : Nat) (n : Int) : Own := .box b [.c (.int .i64 n)]
end Go.Proofs.YtjhonjdhanlbkaaGreat.J

/- Walks: both walks over a value. -/
namespace Go.Proofs.YtjhonjdhanlbkaaGreat.J
open Go Go.RowKit
set_option maxRecDepth 10000
set_option maxHeartbeats 4000000
theorem V.chks_cons {is : List V} {j : Nat} (h : j < is.length) (lev n : Int) : V.chks (is.drop j) lev n = if (V.chk is[j] (lev + 1) n).1 ≠ 0 then V.chk is[j] (lev + 1) n else V.chks (is.drop (j + 1)) lev (V.chk is[j] (lev + 1) n).2 := by
  rw [List.drop_eq_getElem_cons h, V.chks]
theorem V.depths_cons {is : List V} {j : Nat} (h : j < is.length) : V.depths (is.drop j) = max is[j].depth (V.depths (is.drop (j + 1))) := by
  rw [List.drop_eq_getElem_cons h, V.depths]
def WalkR (v : V) (lev n : Int) : AV → List Own → Prop := fun x o => o = [] ∧ ∃ p d : Int, x = .tup [.c (.int .i64 p), .c (.int .i64 d), .c (.int .i64 (v.chk lev n).1)] ∧ ((v.chk lev n).1 = 0 → p = (v.chk lev n).2 ∧ d = lev + v.depth - 1)
theorem WalkR.mk {v : V} {lev n p d e : Int} (he : e = (v.chk lev n).1) (h : (v.chk lev n).1 = 0 → p = (v.chk lev n).2 ∧ d = lev + v.depth - 1) : RetR (WalkR v lev n) (.ret (.tup [.c (.int .i64 p), .c (.int .i64 d), .c (.int .i64 e)])) [] :=
  ⟨_, rfl, rfl, p, d, by rw [he], h⟩
theorem rwalk_n  : ∀ (n : Nat) {v : V} {ys : List AV} {fr : Bool} {lev p : Int}, Vc fr v ys → v.wf → 1 ≤ lev ∧ lev ≤ 9 → 0 ≤ p ∧ p ≤ 512 → v.sz ≤ n →
    AC Tryz.prog 29 [] [.agg ys, .c (.int .i64 lev), .c (.int .i64 p)] (RetR (WalkR v lev p)) := by
  intro n
  induction n with
  | zero => intro v ys fr lev p hv hw hl hp h; exact absurd h (by have := V.sz_pos v; omega)
  | succ n ih =>
    intro v ys fr lev p hv hw hl hp hn
    obtain ⟨k, b, t, ks, is⟩ := v
    subst hv
    obtain ⟨-, -, -, -, hi80, -, hwi⟩ := hw.inv
    have hi64 : is.length ≤ 9223372036854775806 := by unfold reach at hi80; omega
    refine AC.of_J Tryz.func29 rfl Tryz.ntmps29 rfl fun w0 A0 => ?_
    refine Zs (JL.box_agg (.tmp rfl) rfl fun b3 => Zq rfl (QW.assign .const) (Zq rfl (QW.assign .const) (Zq rfl (QW.assign .const) (Zn (J.seq (J.block (Zs (Zq rfl (QW.move (.tmp rfl)) ?_))))))))
    refine Zq rfl (QW.gtr (.tmp rfl) .const) (Zq rfl (QW.assign (.tmp rfl)) (Zn ?_))
    refine J.cond (.tmp rfl) (fun c1 => ?_) (fun c1 => ?_)
    · skip
      simp at c1
      exact Zs (Zq rfl (QW.move (.tmp rfl)) (Zq rfl (QW.move (.tmp rfl)) (Zq rfl (QW.assign (.tmp rfl)) (Zq rfl (QW.assign (.tmp rfl)) (Zq rfl (QW.assign .const) (Zn (J.ret (blkQ.r (thenQ.r (Zr [.k] (RetEv.three rfl (REv.tmp rfl lr) (REv.tmp rfl lr) (REv.tmp rfl lr)) rfl (WalkR.mk (by simp [V.chk, c1]) (fun h => by simp [V.chk, c1] at h))))))))))))
    simp at c1
    refine Zs (Zq rfl (QW.move (.tmp rfl)) (Zq rfl (QW.geq (.tmp rfl) .const) (Zq rfl (QW.assign (.tmp rfl)) (Zn ?_))))
    refine J.cond (.tmp rfl) (fun c2 => ?_) (fun c2 => ?_)
    · skip
      simp at c2
      exact Zs (Zq rfl (QW.move (.tmp rfl)) (Zq rfl (QW.move (.tmp rfl)) (Zq rfl (QW.assign (.tmp rfl)) (Zq rfl (QW.assign (.tmp rfl)) (Zq rfl (QW.assign .const) (Zn (J.ret (blkQ.r (thenQ.r (Zr [.k] (RetEv.three rfl (REv.tmp rfl lr) (REv.tmp rfl lr) (REv.tmp rfl lr)) rfl (WalkR.mk (by simp [V.chk, show ¬ 8 < lev by omega, c2]) (fun h => by simp [V.chk, show ¬ 8 < lev by omega, c2] at h))))))))))))
    simp at c2
    refine Zs (Zq rfl (QW.load_box 0 ty29 (.tmp rfl) rfl rfl rfl) (Zq rfl (QW.call gofn39 (.cons (.tmp rfl) .nil) (rpart_ok Vc.mk hw)) (Zq rfl (QW.not (.tmp rfl)) (Zq rfl (QW.assign (.tmp rfl)) (Zn ?_)))))
    refine J.cond (.tmp rfl) (fun c3 => ?_) (fun c3 => ?_)
    · skip
      simp at c3
      exact Zs (Zq rfl (QW.move (.tmp rfl)) (Zq rfl (QW.move (.tmp rfl)) (Zq rfl (QW.assign (.tmp rfl)) (Zq rfl (QW.assign (.tmp rfl)) (Zq rfl (QW.assign .const) (Zn (J.ret (blkQ.r (thenQ.r (Zr [.k] (RetEv.three rfl (REv.tmp rfl lr) (REv.tmp rfl lr) (REv.tmp rfl lr)) rfl (WalkR.mk (by simp [V.chk, show ¬ 8 < lev by omega, show ¬ 512 ≤ p by omega, c3]) (fun h => by simp [V.chk, show ¬ 8 < lev by omega, show ¬ 512 ≤ p by omega, c3] at h))))))))))))
    simp at c3
    refine J.skip (blkQ.n (thenQ.n (Zs (Zq rfl (QW.move (.tmp rfl)) (Zq rfl (QW.add (.tmp rfl) .const (w64 (by omega))) (Zq rfl (QW.assign (.tmp rfl)) (Zn (Zs (Zq rfl (QW.move (.tmp rfl)) ?_)))))))))
    refine Zq rfl (QW.assign (.tmp rfl)) (Zn (J.seq (Zs (Zq rfl (QW.assign .const) (Zn (J.block ?_))))))
    have hck : V.chk (.mk k b t ks is) lev p = V.chks is lev (p + 1) := by unfold V.chk; rw [if_neg (by omega), if_neg (by omega), if_neg (by simp [c3])]
    refine J.loopK (ι := Nat × Int × Int) [1, 3] (fun ⟨j, q, e⟩ => [(10, .c (.int .i64 (j : Int))), (2, .c (.int .i64 q)), (9, .c (.int .i64 e))]) (fun _ oo => oo) (fun ⟨j, q, e⟩ => j ≤ is.length ∧ V.chks is lev (p + 1) = V.chks (is.drop j) lev q ∧ max e (lev + V.depths (is.drop j)) = lev + V.depths is ∧ (0 ≤ q ∧ q ≤ 512 ∧ lev ≤ e)) (fun ⟨j, q, e⟩ => is.length - j) ⟨0, p + 1, lev⟩ (⟨Nat.zero_le _, rfl, by have := V.depths_nonneg is; rw [List.drop_zero]; omega, by omega⟩) (Wk.re (.cons rfl lr (.cons rfl lr (.cons rfl lr (.cons rfl lr (.cons rfl lr .nil))))) (Reown.refl _) (fun _ h => by first | exact h | simp [h])) ?_
    intro ⟨j, q, e⟩ ⟨hj, hcs, hde, hq⟩
    refine J.conv (by (try simp only [nl, stepsO, valO, nthO, curO, mrg, AV.cellsOf, splice_zero, splice_succ, Nat.reduceAdd]); rfl) ?_
    refine J.seq (Zs (Zq rfl (QW.move (.tmp rfl)) (Zq rfl (QW.field_ptr fo29_4 (.tmp rfl) rfl) (Zq rfl (QW.load_box1 0 ty27 (.tmp rfl) rfl rfl) (Zq rfl (QW.len_sl sl27 (.tmp rfl)) (Zq rfl (QW.lss (.tmp rfl) (.tmp rfl)) (Zn ?_)))))))
    refine J.cond (.tmp rfl) (fun c4 => ?_) (fun c4 => ?_)
    · skip
      have hlt : j < is.length := by simpa [V.css_length] using c4
      refine Zk (J.seq (J.block (Zs (Zq rfl (QW.field_ptr fo29_4 (.tmp rfl) rfl) (Zq rfl (QW.load_box1 0 ty27 (.tmp rfl) rfl rfl) (Zq rfl (QW.move (.tmp rfl)) (Zq rfl (QW.index_sl sl27 ty29 rfl (.tmp rfl) (.tmp rfl) rfl (by exact V.css_getE _ hlt)) ?_)))))))
      refine Zq rfl (QW.load_ref ty29 (.tmp rfl) (take_at0 vl rfl) vl) (Zq rfl (QW.move (.tmp rfl)) (Zq rfl (QW.add (.tmp rfl) .const (w64 (by omega))) (Zq rfl (QW.move (.tmp rfl)) (JL.callRF [] gofn29 rfl Lent.nil (fun _ => (.cons (.tmp rfl) (.cons (.tmp rfl) (.cons (.tmp rfl) .nil)))) (ih (Vc.self) (hwi _ (List.getElem_mem _)) (by omega) (by omega) (V.sz_get hn hlt)) (.inl rfl) fun x49 o49 h49 => ?_))))
      obtain ⟨rfl, p49, d49, rfl, hp49⟩ := h49
      have hlt : j < is.length := by simpa [V.css_length] using c4
      refine Zq rfl (QW.move (.tmp rfl)) (Zq rfl (QW.extract (.tmp rfl) rfl) (Zq rfl (QW.extract (.tmp rfl) rfl) (Zq rfl (QW.extract (.tmp rfl) rfl) (Zq rfl (QW.assign (.tmp rfl)) (Zq rfl (QW.assign (.tmp rfl)) (Zq rfl (QW.assign (.tmp rfl)) (Zn (J.seq (Zs ?_)))))))))
      refine Zq rfl (QW.move (.tmp rfl)) (Zq rfl (QW.neq (.tmp rfl) .const) (Zn ?_))
      refine J.cond (.tmp rfl) (fun c5 => ?_) (fun c5 => ?_)
      · skip
        simp at c5
        refine Zs (Zq rfl (QW.move (.tmp rfl)) (Zq rfl (QW.move (.tmp rfl)) (Zq rfl (QW.move (.tmp rfl)) (Zq rfl (QW.assign (.tmp rfl)) (Zq rfl (QW.assign (.tmp rfl)) (Zq rfl (QW.assign (.tmp rfl)) (Zn (J.ret (thenQ.r ?_)))))))))
        refine blkQ.r (thenQ.r (thenQ.r (blkQ.r (thenQ.r ?_))))
        rw [V.chks_cons hlt, if_pos (by simpa using c5)] at hcs
        have he := hck.trans hcs
        exact Zr [.k] (RetEv.three rfl (REv.tmp rfl lr) (REv.tmp rfl lr) (REv.tmp rfl lr)) rfl (WalkR.mk (by rw [he]) (fun h => absurd (by rw [he] at h; exact h) c5))
      simp at c5
      refine Zk (J.region_lit (Zq rfl (QW.move (.tmp rfl)) (Zq rfl (QW.move (.tmp rfl)) (Zq rfl (QW.move (.tmp rfl)) (Zq rfl (QW.max2 (.tmp rfl) (.tmp rfl)) (Zq rfl (QW.assign (.tmp rfl)) (Zq rfl (QW.assign (.tmp rfl)) (JL.nil (blkQ.n ?_)))))))))
      refine thenQ.n (J.region_lit (Zq rfl (QW.move (.tmp rfl)) (Zq rfl (QW.add (.tmp rfl) .const (w64 (by omega))) (Zq rfl (QW.assign (.tmp rfl)) (Zn ?_)))))
      have hb := V.chk_bounds is[j] (lev + 1) q
      obtain ⟨hq1, hq2⟩ := hp49 c5
      rw [V.chks_cons hlt, if_neg (by simp [c5])] at hcs
      rw [V.depths_cons hlt] at hde
      exact ⟨⟨j + 1, p49, max e d49⟩, ⟨hlt, by rw [hcs, hq1], by omega, by omega⟩, by show is.length - (j + 1) < is.length - j; omega, Wk.re (.cons rfl lr (.cons rfl lr (.cons rfl (Le.intE (by simp only [Int.max_def]; split <;> split <;> omega)) (.cons rfl lr (.cons rfl lr .nil))))) (Reown.refl _) (fun _ h => by first | exact h | simp [h])⟩
    have hge : is.length ≤ j := by simpa [V.css_length] using c4
    refine J.exit (thenQ.x (thenQ.x (blkQ.hit (thenQ.n (Zs (Zq rfl (QW.move (.tmp rfl)) (Zq rfl (QW.move (.tmp rfl)) (Zq rfl (QW.assign (.tmp rfl)) (Zq rfl (QW.assign (.tmp rfl)) ?_)))))))))
    refine Zq rfl (QW.assign .const) (Zn (J.ret ?_))
    obtain rfl : j = is.length := by omega
    simp only [List.drop_length, V.chks, V.depths] at hcs hde
    have he := hck.trans hcs
    exact Zr [.k] (RetEv.three rfl (REv.tmp rfl lr) (REv.tmp rfl lr) (REv.tmp rfl lr)) rfl (WalkR.mk (by rw [he]) (fun h => ⟨by rw [he], by unfold V.depth; omega⟩))
theorem rwalk_ok {v : V} {ys : List AV} {fr : Bool} {lev p : Int} (hv : Vc fr v ys) (hw : v.wf) (hl : 1 ≤ lev ∧ lev ≤ 9) (hp : 0 ≤ p ∧ p ≤ 512) :
    AC Tryz.prog 29 [] [.agg ys, .c (.int .i64 lev), .c (.int .i64 p)] (RetR (WalkR v lev p)) := rwalk_n _ hv hw hl hp (Nat.le_refl _)
def WR (v : V) (lev p d : Int) (bw : Nat) : Res → List Own → Prop := PanR ((v.chk lev p).1 = 0) (errV (v.chk lev p).1) fun x o => x = .tup [] ∧ o = [wk bw (v.chk lev p).2 (max d (lev + v.depth - 1))]
theorem walk_n  : ∀ (n : Nat) {v : V} {ys : List AV} {fr : Bool} {lev p d : Int} {bw : Nat}, Vc fr v ys → v.wf → 1 ≤ lev ∧ lev ≤ 9 → 0 ≤ p ∧ p ≤ 512 → v.sz ≤ n →
    AC Tryz.prog 37 [wk bw p d] [.c (.pointer (some ⟨bw, 0, none⟩)), .agg ys, .c (.int .i64 lev)] (WR v lev p d bw) := by
  intro n
  induction n with
  | zero => intro v ys fr lev p d bw hv hw hl hp h; exact absurd h (by have := V.sz_pos v; omega)
  | succ n ih =>
    intro v ys fr lev p d bw hv hw hl hp hn
    obtain ⟨k, b, t, ks, is⟩ := v
    subst hv
    obtain ⟨-, -, -, -, hi80, -, hwi⟩ := hw.inv
    have hi64 : is.length ≤ 9223372036854775806 := by unfold reach at hi80; omega
    refine AC.of_J Tryz.func37 rfl Tryz.ntmps37 rfl fun w0 A0 => ?_
    refine Zs (JL.box_agg (.tmp rfl) rfl fun b4 => Zn (J.seq (J.block (Zs (Zq rfl (QW.move (.tmp rfl)) (Zq rfl (QW.gtr (.tmp rfl) .const) (Zq rfl (QW.assign (.tmp rfl)) (Zn ?_))))))))
    refine J.cond (.tmp rfl) (fun c1 => ?_) (fun c1 => ?_)
    · skip
      simp at c1
      refine J.region_lit (Zq rfl (QW.mkIface ⟨_, Tryz.underlying38, by intro ms h; cases h⟩ .const) ?_)
      refine JL.panic (.tmp rfl) (blkQ.p (thenQ.p ?_))
      exact ⟨_, selP [.k, .k] _, _, rfl, rfl, sel_perm [.k, .k] _, PanR.of (by simp [V.chk, c1]) (by decide)⟩
    simp at c1
    refine Zs (Zq rfl (QW.move (.tmp rfl)) (Zq rfl (QW.nil_ptr (.tmp rfl)) (Zq rfl (QW.field_ptr fo76_0 (.tmp rfl) rfl) (Zq rfl (QW.load_box1 1 ty3 (.tmp rfl) rfl rfl) (Zq rfl (QW.eql (.tmp rfl) .const) (Zq rfl (QW.assign (.tmp rfl)) (Zn ?_)))))))
    refine J.cond (.tmp rfl) (fun c2 => ?_) (fun c2 => ?_)
    · skip
      simp at c2
      refine J.region_lit (Zq rfl (QW.mkIface ⟨_, Tryz.underlying38, by intro ms h; cases h⟩ .const) ?_)
      refine JL.panic (.tmp rfl) (blkQ.p (thenQ.p ?_))
      exact ⟨_, selP [.k, .k] _, _, rfl, rfl, sel_perm [.k, .k] _, PanR.of (by simp [V.chk, show ¬ 8 < lev by omega, show 512 ≤ p by omega]) (by decide)⟩
    simp at c2
    refine Zs (Zq rfl (QW.load_box 0 ty29 (.tmp rfl) rfl rfl rfl) (Zq rfl (QW.call gofn59 (.cons (.tmp rfl) .nil) (part_ok Vc.mk hw)) (Zq rfl (QW.not (.tmp rfl)) (Zq rfl (QW.assign (.tmp rfl)) (Zn ?_)))))
    refine J.cond (.tmp rfl) (fun c3 => ?_) (fun c3 => ?_)
    · skip
      simp at c3
      refine J.region_lit (Zq rfl (QW.mkIface ⟨_, Tryz.underlying38, by intro ms h; cases h⟩ .const) ?_)
      refine JL.panic (.tmp rfl) (blkQ.p (thenQ.p ?_))
      exact ⟨_, selP [.k, .k] _, _, rfl, rfl, sel_perm [.k, .k] _, PanR.of (by simp [V.chk, show ¬ 8 < lev by omega, show ¬ 512 ≤ p by omega, c3]) (by decide)⟩
    simp at c3
    refine J.skip (blkQ.n (thenQ.n (Zs (Zq rfl (QW.move (.tmp rfl)) (Zq rfl (QW.nil_ptr (.tmp rfl)) (Zq rfl (QW.field_ptr fo76_0 (.tmp rfl) rfl) (Zq rfl (QW.load_box1 1 ty3 (.tmp rfl) rfl rfl) (Zq rfl (QW.add (.tmp rfl) .const (w64 (by omega))) (Zq rfl (QW.nil_ptr (.tmp rfl)) ?_)))))))))
    refine Zq rfl (QW.field_ptr fo76_0 (.tmp rfl) rfl) (JL.store_box 1 ty3 (.tmp rfl) rfl (.tmp rfl) rfl rfl rfl rfl rfl (Zn (Zs (Zq rfl (QW.move (.tmp rfl)) (Zq rfl (QW.move (.tmp rfl)) (Zq rfl (QW.nil_ptr (.tmp rfl)) (Zq rfl (QW.field_ptr fo76_1 (.tmp rfl) rfl) (Zq rfl (QW.load_box1 1 ty3 (.tmp rfl) rfl rfl) (Zq rfl (QW.move (.tmp rfl)) ?_)))))))))
    refine Zq rfl (QW.max2 (.tmp rfl) (.tmp rfl)) (Zq rfl (QW.nil_ptr (.tmp rfl)) (Zq rfl (QW.field_ptr fo76_1 (.tmp rfl) rfl) (JL.store_box 1 ty3 (.tmp rfl) rfl (.tmp rfl) rfl rfl rfl rfl rfl (Zn (Zs (Zq rfl (QW.field_ptr fo29_4 (.tmp rfl) rfl) (Zq rfl (QW.load_box1 0 ty27 (.tmp rfl) rfl rfl) (Zq rfl (QW.len_sl sl27 (.tmp rfl)) (Zq rfl (QW.move .const) ?_)))))))))
    refine Zn (J.block ?_)
    have hck : V.chk (.mk k b t ks is) lev p = V.chks is lev (p + 1) := by unfold V.chk; rw [if_neg (by omega), if_neg (by omega), if_neg (by simp [c3])]
    refine J.loopK (ι := Nat × Int × Int) [0, 2, 41, 42] (fun ⟨j, q, e⟩ => [(43, .c (.int .i64 (j : Int)))]) (fun ⟨j, q, e⟩ oo => List.set oo 1 (wk bw q e)) (fun ⟨j, q, e⟩ => j ≤ is.length ∧ V.chks is lev (p + 1) = V.chks (is.drop j) lev q ∧ max e (lev + V.depths (is.drop j)) = max d (lev + V.depths is) ∧ (0 ≤ q ∧ q ≤ 512 ∧ lev ≤ e)) (fun ⟨j, q, e⟩ => is.length - j) ⟨0, p + 1, if lev > d then lev else d⟩ (⟨Nat.zero_le _, rfl, by have := V.depths_nonneg is; rw [List.drop_zero]; split <;> omega, by split <;> omega⟩) (Wk.re (.cons rfl lr (.cons rfl lr (.cons rfl lr (.cons rfl lr (.cons rfl lr .nil))))) (Reown.refl _) (fun _ h => by first | exact h | simp [h])) ?_
    intro ⟨j, q, e⟩ ⟨hj, hcs, hde, hq⟩
    refine J.conv (by (try simp only [nl, stepsO, valO, nthO, curO, mrg, AV.cellsOf, splice_zero, splice_succ, Nat.reduceAdd]); rfl) ?_
    refine Zs (Zq rfl (QW.lss (.tmp rfl) (.tmp rfl)) (Zn (J.seq ?_)))
    refine J.cond (.tmp rfl) (fun c4 => ?_) (fun c4 => ?_)
    · skip
      have hlt : j < is.length := by simpa [V.css_length] using c4
      refine Zk (J.seq (J.block (Zs (Zq rfl (QW.index_sl sl27 ty29 rfl (.tmp rfl) (.tmp rfl) rfl (by exact V.css_getE _ hlt)) ?_))))
      refine Zq rfl (QW.load_ref ty29 (.tmp rfl) (take_at0 vl rfl) vl) (JL.alloc z29 rfl rfl fun b7 => JL.store_boxF 0 ty29 (.tmp rfl) rfl (.tmp rfl) rfl vl rfl rfl (Zn (J.region_lit (Zq rfl (QW.move (.tmp rfl)) (Zq rfl (QW.load_box 0 ty29 (.tmp rfl) rfl (take_at vl rfl) vl) (Zq rfl (QW.move (.tmp rfl)) (Zq rfl (QW.add (.tmp rfl) .const (w64 (by omega))) ?_)))))))
      refine JL.callPF [.k, .k, .p] gofn37 rfl Lent.nil (fun _ => (.cons (.tmp rfl) (.cons (.tmp rfl) (.cons (.tmp rfl) .nil)))) (ih (Vc.self) (hwi _ (List.getElem_mem _)) (by omega) (by omega) (V.sz_get hn hlt)) (.inl rfl) (fun k51 x51 o51 h51 => ?_) (fun k51 => ?_)
      rotate_left
      · skip
        refine blkQ.p (thenQ.p (thenQ.p (blkQ.p ?_)))
        rw [V.chks_cons hlt, if_pos k51] at hcs
        have he := hck.trans hcs
        exact ⟨_, selP [.k, .k] _, _, rfl, rfl, sel_perm [.k, .k] _, PanR.of (by rw [he]) k51⟩
      obtain ⟨rfl, rfl⟩ := h51
      refine JL.nil (blkQ.n (thenQ.n (J.region_lit (Zq rfl (QW.add (.tmp rfl) .const (w64 (by omega))) (Zq rfl (QW.move (.tmp rfl)) (Zn ?_))))))
      have hb := V.chk_bounds is[j] (lev + 1) q
      rw [V.chks_cons hlt, if_neg (by simp [k51])] at hcs
      rw [V.depths_cons hlt] at hde
      exact ⟨⟨j + 1, (V.chk is[j] (lev + 1) q).2, max e (lev + 1 + is[j].depth - 1)⟩, ⟨hlt, hcs, by omega, by omega⟩, by show is.length - (j + 1) < is.length - j; omega, Wk.re (.cons rfl lr (.cons rfl lr (.cons rfl lr (.cons rfl lr (.cons rfl lr .nil))))) (Reown.dropN 1 _ rfl) (fun _ h => by first | exact h | simp [h])⟩
    have hge : is.length ≤ j := by simpa [V.css_length] using c4
    refine J.exit (thenQ.x (thenQ.x (blkQ.hit ?_)))
    obtain rfl : j = is.length := by omega
    simp only [List.drop_length, V.chks, V.depths] at hcs hde
    have he := hck.trans hcs
    exact Zr [.k, .p] (RetEv.none rfl ) rfl (PanR.ret (by rw [he]) ⟨rfl, by rw [he]; unfold V.depth; rw [show max d (lev + (1 + V.depths is) - 1) = e by omega]; rfl⟩)
end Go.Proofs.YtjhonjdhanlbkaaGreat.J

/- Walks: sizes and checks of values. -/
namespace Go.Proofs.YtjhonjdhanlbkaaGreat.J
open Go Go.RowKit
set_option maxRecDepth 10000
set_option maxHeartbeats 4000000
theorem size1_ret (a b c : Nat) (x y z : Int) : DC Tryz.prog 36 [ibox c z, ibox b y, ibox a x] [.c (.pointer (some ⟨a, 0, none⟩)), .c (.pointer (some ⟨b, 0, none⟩)), .c (.pointer (some ⟨c, 0, none⟩))] .returning fun r u' o => r = .ret (.tup []) ∧ u' = .returning ∧ o = [ibox c z, ibox b y, ibox a x] := by
  refine DC.of_JD Tryz.func36 rfl Tryz.ntmps36 rfl fun w0 A0 => ?_
  refine JD.seq (JD.region_recover rfl rfl (.inl ⟨rfl, rfl, rfl⟩) rfl (Zq rfl (QW.assert_nil ⟨_, Tryz.underlying38, by intro ms h; cases h⟩ zeroErrno (.tmp rfl)) ?_))
  refine Zq rfl (QW.move (.tmp rfl)) (Zq rfl (QW.extract (.tmp rfl) rfl) (Zq rfl (QW.extract (.tmp rfl) rfl) (Zq rfl (QW.assign (.tmp rfl)) (Zq rfl (QW.assign (.tmp rfl)) (JL.nil ?_)))))
  refine thenD.nn ?_
  refine JD.of_J rfl (Zs (Zq rfl (QW.move (.tmp rfl)) (Zn ?_)))
  refine J.cond (.tmp rfl) (fun c1 => absurd c1 (by simp)) (fun c1 => ?_)
  refine J.skip ?_
  exact ⟨_, selP [.p, .p, .p] _, _, RetEv.none rfl , rfl, sel_perm [.p, .p, .p] _, ⟨rfl, rfl, rfl⟩⟩
theorem size1_pan (a b c : Nat) (x y z e : Int) : DC Tryz.prog 36 [ibox c z, ibox b y, ibox a x] [.c (.pointer (some ⟨a, 0, none⟩)), .c (.pointer (some ⟨b, 0, none⟩)), .c (.pointer (some ⟨c, 0, none⟩))] (.panicking [{ v := errV e, recovered := false }]) fun r u' o => r = .ret (.tup []) ∧ u' = .panicking [{ v := errV e, recovered := true }] ∧ o = [ibox c e, ibox b 0, ibox a 0] := by
  refine DC.of_JD Tryz.func36 rfl Tryz.ntmps36 rfl fun w0 A0 => ?_
  refine JD.seq (JD.region_recover rfl rfl (.inr ⟨[], rfl, rfl⟩) rfl (Zq rfl (QW.assert_hit ⟨_, Tryz.underlying38, by intro ms h; cases h⟩ (.tmp rfl)) ?_))
  refine Zq rfl (QW.move (.tmp rfl)) (Zq rfl (QW.extract (.tmp rfl) rfl) (Zq rfl (QW.extract (.tmp rfl) rfl) (Zq rfl (QW.assign (.tmp rfl)) (Zq rfl (QW.assign (.tmp rfl)) (JL.nil ?_)))))
  refine thenD.nn ?_
  refine JD.of_J rfl (Zs (Zq rfl (QW.move (.tmp rfl)) (Zn ?_)))
  refine J.cond (.tmp rfl) (fun c1 => ?_) (fun c1 => absurd c1 (by simp))
  refine J.region_lit (Zq rfl (QW.move (.tmp rfl)) (JL.store_box 2 ty3 (.tmp rfl) rfl .const rfl rfl rfl rfl rfl (JL.store_box 1 ty3 (.tmp rfl) rfl .const rfl rfl rfl rfl rfl (JL.store_box 0 ty38 (.tmp rfl) rfl (.tmp rfl) rfl rfl rfl rfl rfl (JL.nil ?_)))))
  exact ⟨_, selP [.p, .p, .p] _, _, RetEv.none rfl , rfl, sel_perm [.p, .p, .p] _, ⟨rfl, rfl, rfl⟩⟩
def sizeAV (v : V) : AV := .tup [.c (.int .i64 (if v.err = 0 then v.cnt else 0)), .c (.int .i64 (if v.err = 0 then v.depth else 0)), .c (.int .i64 v.err)]
theorem sizeAV_ok {v : V} {n d : Int} (h : v.err = 0) (hn : n = v.cnt) (hd : d = v.depth) : sizeAV v = .tup [.c (.int .i64 n), .c (.int .i64 d), .c (.int .i64 0)] := by
  subst hn hd; simp [sizeAV, h]
theorem sizeAV_no {v : V} {e : Int} (h : ¬ v.err = 0) (he : e = v.err) : sizeAV v = .tup [.c (.int .i64 0), .c (.int .i64 0), .c (.int .i64 e)] := by
  subst he; simp [sizeAV, h]
theorem size_ok {fr : Bool} {v : V} {ys : List AV} (hv : Vc fr v ys) (hw : v.wf) : Fn Tryz.prog 27 [.agg ys] (sizeAV v) := by
  subst hv
  refine AC.of_JD Tryz.func27 rfl Tryz.ntmps27 rfl fun w0 A0 => ?_
  refine Zs (JL.box_agg (.tmp rfl) rfl fun b1 => JL.alloc z3 rfl rfl fun b2 => JL.alloc z3 rfl rfl fun b3 => JL.alloc z38 rfl rfl fun b4 => Zn (Zs (Zq rfl (QW.mkFunc .nil (.cons (.tmp rfl) (.cons (.tmp rfl) (.cons (.tmp rfl) .nil)))) (JL.defer rfl (.tmp rfl) (Zn ?_)))))
  refine Zs (JL.alloc z76 rfl rfl fun b5 => Zn (Zs (Zq rfl (QW.load_box 4 ty29 (.tmp rfl) rfl (take_at vl rfl) vl) ?_)))
  refine JL.callPF [.p] gofn37 rfl Lent.nil (fun _ => (.cons (.tmp rfl) (.cons (.tmp rfl) (.cons .const .nil)))) (walk_n _ Vc.self hw (by omega) (by omega) (Nat.le_refl _)) (.inl rfl) (fun k8 x8 o8 h8 => ?_) (fun k8 => ?_)
  rotate_left
  · skip
    refine thenQ.p ?_
    exact ⟨_, _, [], [_, _, _], selP [.p, .p, .p] _, _, rfl, rfl, gofn36, sel_perm [.p, .p, .p] _, DC.mono (size1_pan _ _ _ _ _ _ _) fun r u' o ⟨h1, h2, h3⟩ => by subst h1 h2 h3; exact ⟨⟨_, rfl⟩, rfl, _, [], _, RetEv.three rfl (REv.cell1 2 ty3 rfl rfl rfl lr) (REv.cell1 1 ty3 rfl rfl rfl lr) (REv.cell1 0 ty38 rfl rfl rfl lr), List.Perm.refl _, (congrArg Res.ret (sizeAV_no k8 rfl)).symm, rfl⟩⟩
  obtain ⟨rfl, rfl⟩ := h8
  refine Zn (J.seq (J.region_outK 5 1 (fun os_ ow_ x_ o_ => match os_ with | [] => (x_ = .c undef ∧ o_ = ow_.set 3 (ibox b2 (v.chk 1 0).2)) | _ => False) mixed (by kernel_rfl) (by kernel_rfl) (by kernel_rfl) rfl ?_))
  refine OutK.quiet [] rfl rfl rfl (fun qs_ qv_ ql_ => (.q rfl (QW.field_ptr fo76_0 (.tmp rfl) rfl))) ?_
  refine OutK.quiet [9] rfl rfl rfl (fun qs_ qv_ ql_ => by
      rcases qs_ with _ | ⟨⟨y0, p0⟩, qs_⟩
      · skip
        exact (.q rfl (QW.load_box1 0 ty3 (.tmp rfl) rfl rfl))
      rcases qs_ with _ | ⟨⟨y1, p1⟩, qs_⟩
      · skip
        obtain ⟨hr0, _⟩ := qv_
        obtain ⟨rfl, rfl⟩ := hr0
        exact (.q rfl (QW.load_box1 0 ty3 (.tmp rfl) rfl rfl))
      exact absurd ql_ (by simp)) ?_
  refine OutK.quiet [] rfl rfl rfl (fun qs_ qv_ ql_ => (.q rfl (QW.field_ptr fo76_1 (.tmp rfl) rfl))) ?_
  refine OutK.quiet [11] rfl rfl rfl (fun qs_ qv_ ql_ => by
      rcases qs_ with _ | ⟨⟨y0, p0⟩, qs_⟩
      · skip
        exact (.q rfl (QW.load_box1 0 ty3 (.tmp rfl) rfl rfl))
      rcases qs_ with _ | ⟨⟨y1, p1⟩, qs_⟩
      · skip
        obtain ⟨hr0, _⟩ := qv_
        obtain ⟨rfl, rfl⟩ := hr0
        exact (.q rfl (QW.load_box1 0 ty3 (.tmp rfl) rfl rfl))
      exact absurd ql_ (by simp)) ?_
  refine OutK.store [10] rfl (fun qs_ ow x o h ql_ => by
      obtain rfl : qs_ = [] := List.length_eq_zero_iff.1 (by simpa using ql_)
      exact h.1) rfl rfl rfl (fun qs_ qv_ ql_ => by
      obtain rfl : qs_ = [] := List.length_eq_zero_iff.1 ql_
      exact LStep.toR rfl (LStep.store_box 3 ty3 (.tmp rfl) rfl (.tmp rfl) rfl rfl rfl rfl rfl) ⟨rfl, rfl⟩) ?_
  refine .nil fun qs_ qv_ ql_ => ?_
  obtain ⟨⟨y0, p0⟩, qs_, rfl⟩ : ∃ p t, qs_ = p :: t := by (cases qs_ with | nil => simp at ql_ | cons p t => exact ⟨p, t, rfl⟩)
  obtain rfl : qs_ = [] := List.length_eq_zero_iff.1 (by simpa using ql_)
  obtain ⟨hr0, _⟩ := qv_
  obtain ⟨rfl, rfl⟩ := hr0
  refine JL.conv (by (try simp only [nl, stepsO, valO, nthO, curO, mrg, AV.cellsOf, splice_zero, splice_succ, Nat.reduceAdd]); rfl) ?_
  refine JL.store_box 2 ty3 (.tmp rfl) rfl (.tmp rfl) rfl rfl rfl rfl rfl (JL.store_box 1 ty38 (.tmp rfl) rfl .const rfl rfl rfl rfl rfl (Zn (J.ret ?_)))
  exact ⟨_, _, [], [_, _, _], selP [.k, .p, .p, .p] _, _, rfl, rfl, gofn36, sel_perm [.k, .p, .p, .p] _, DC.mono (size1_ret _ _ _ _ _ _) fun r u' o ⟨h1, h2, h3⟩ => by subst h1 h2 h3; exact ⟨⟨_, rfl⟩, rfl, _, [], _, RetEv.three rfl (REv.cell1 2 ty3 rfl rfl rfl lr) (REv.cell1 1 ty3 rfl rfl rfl lr) (REv.cell1 0 ty38 rfl rfl rfl lr), List.Perm.refl _, (congrArg Res.ret (sizeAV_ok k8 rfl (by have := V.chk_depth v 1 0 k8; omega))).symm, rfl⟩⟩
theorem check_ok {fr : Bool} {v : V} {ys : List AV} (hv : Vc fr v ys) (hw : v.wf) : Fn Tryz.prog 18 [.agg ys] (.c (.int .i64 v.err)) := by
  subst hv
  refine AC.of_J Tryz.func18 rfl Tryz.ntmps18 rfl fun w0 A0 => ?_
  refine Zs (JL.box_agg (.tmp rfl) rfl fun b1 => Zq rfl (QW.assign .const) (Zn (Zs (Zq rfl (QW.load_box 0 ty29 (.tmp rfl) rfl (take_at vl rfl) vl) (Zq rfl (QW.call gofn27 (.cons (.tmp rfl) .nil) (size_ok (Vc.self) (by assumption))) ?_)))))
  refine Zq rfl (QW.move (.tmp rfl)) (Zq rfl (QW.extract (.tmp rfl) rfl) (Zq rfl (QW.extract (.tmp rfl) rfl) (Zq rfl (QW.extract (.tmp rfl) rfl) (Zq rfl (QW.assign (.tmp rfl)) (Zq rfl (QW.assign (.tmp rfl)) (Zq rfl (QW.assign (.tmp rfl)) (Zn (Zs (Zq rfl (QW.move (.tmp rfl)) ?_)))))))))
  exact Zq rfl (QW.assign (.tmp rfl)) (Zn (J.ret (Zr [.k] (RetEv.one rfl (REv.tmp rfl lr)) rfl ⟨rfl, rfl⟩)))
theorem rcheck_ok {fr : Bool} {v : V} {ys : List AV} (hv : Vc fr v ys) (hw : v.wf) : Fn Tryz.prog 20 [.agg ys] (.c (.int .i64 v.err)) := by
  subst hv
  refine AC.of_J Tryz.func20 rfl Tryz.ntmps20 rfl fun w0 A0 => ?_
  refine Zs (JL.box_agg (.tmp rfl) rfl fun b1 => Zq rfl (QW.assign .const) (Zn (Zs (Zq rfl (QW.load_box 0 ty29 (.tmp rfl) rfl (take_at vl rfl) vl) (JL.callRF [] gofn29 rfl Lent.nil (fun _ => (.cons (.tmp rfl) (.cons .const (.cons .const .nil)))) (rwalk_ok Vc.self hw (by omega) (by omega)) (.inl rfl) fun x8 o8 h8 => ?_)))))
  obtain ⟨rfl, p8, d8, rfl, hp8⟩ := h8
  refine Zq rfl (QW.move (.tmp rfl)) (Zq rfl (QW.extract (.tmp rfl) rfl) (Zq rfl (QW.extract (.tmp rfl) rfl) (Zq rfl (QW.extract (.tmp rfl) rfl) (Zq rfl (QW.assign (.tmp rfl)) (Zq rfl (QW.assign (.tmp rfl)) (Zq rfl (QW.assign (.tmp rfl)) (Zn (Zs (Zq rfl (QW.move (.tmp rfl)) ?_)))))))))
  exact Zq rfl (QW.assign (.tmp rfl)) (Zn (J.ret (Zr [.k] (RetEv.one rfl (REv.tmp rfl lr)) rfl ⟨rfl, rfl⟩)))
end Go.Proofs.YtjhonjdhanlbkaaGreat.J

/- Walks: what the statements share: are two things one; copies of values. -/
namespace Go.Proofs.YtjhonjdhanlbkaaGreat.J
open Go Go.RowKit
set_option maxRecDepth 10000
set_option maxHeartbeats 4000000
theorem list_split {α : Type} [BEq α] [LawfulBEq α] {a b : List α} (hl : a.length = b.length) {k : Nat} (h : a.take k = b.take k) (ha : k < a.length) : (a.take (k + 1) = b.take (k + 1)) ↔ a[k] = b[k]'(hl ▸ ha) := by
  have hb : k < b.length := by omega
  rw [List.take_succ_eq_append_getElem (l := a) ha, List.take_succ_eq_append_getElem (l := b) hb, h, List.append_right_inj]
  simp
theorem sameStrings_ok {fr fr2 : Bool} (a b : List Str) (ha : a.length ≤ 9223372036854775806) (hb : b.length ≤ 9223372036854775806) : Fn Tryz.prog 26 [.sl fr false eStr (keysAV a), .sl fr2 false eStr (keysAV b)] (.c (.bool (a == b))) := by
  refine AC.of_J Tryz.func26 rfl Tryz.ntmps26 rfl fun w0 A0 => ?_
  refine Zs (Zq rfl (QW.assign .const) (Zn (J.seq (Zs (Zq rfl (QW.move (.tmp rfl)) (Zq rfl (QW.len_sl sl26 (.tmp rfl)) (Zq rfl (QW.move (.tmp rfl)) (Zq rfl (QW.len_sl sl26 (.tmp rfl)) (Zq rfl (QW.neq (.tmp rfl) (.tmp rfl)) ?_)))))))))
  refine Zn ?_
  refine J.cond (.tmp rfl) (fun c1 => ?_) (fun c1 => ?_)
  · skip
    simp [keysAV_length] at c1
    exact Zs (Zq rfl (QW.assign .const) (Zn (J.ret (thenQ.r (Zr [] (RetEv.one rfl (REv.tmp rfl lr)) rfl ⟨ret_b (by simp; intro e; subst e; exact c1 rfl), rfl⟩)))))
  have hl : a.length = b.length := by simp [keysAV_length] at c1; omega
  refine Zk (J.seq (Zs (Zq rfl (QW.assign .const) (Zn (J.block (J.loopK (ι := Nat) [0, 1] (fun k => [(5, .c (.int .i64 (k : Int)))]) (fun _ oo => oo) (fun k => k ≤ a.length ∧ a.take k = b.take k) (fun k => a.length - k) 0 (⟨Nat.zero_le _, rfl⟩) (Wk.re (.cons rfl lr (.cons rfl lr (.cons rfl lr .nil))) (Reown.refl _) (fun _ h => by first | exact h | simp [h])) ?_))))))
  intro k ⟨hk, heqs⟩
  refine J.conv (by (try simp only [nl, stepsO, valO, nthO, curO, mrg, AV.cellsOf, splice_zero, splice_succ, Nat.reduceAdd]); rfl) ?_
  refine J.seq (Zs (Zq rfl (QW.move (.tmp rfl)) (Zq rfl (QW.move (.tmp rfl)) (Zq rfl (QW.len_sl sl26 (.tmp rfl)) (Zq rfl (QW.lss (.tmp rfl) (.tmp rfl)) (Zn ?_))))))
  refine J.cond (.tmp rfl) (fun c2 => ?_) (fun c2 => ?_)
  · skip
    have hlt : k < a.length := by simpa [keysAV_length] using c2
    refine Zk (J.seq (J.block (J.seq (J.region_tailK 8 mixed (by kernel_rfl) (by kernel_rfl) (by kernel_rfl) rfl ?_))))
    refine .cons [] rfl rfl rfl (.q rfl (QW.move (.tmp rfl))) ?_
    refine .cons [] rfl rfl rfl (.q rfl (QW.move (.tmp rfl))) ?_
    refine .cons [17, 18] rfl rfl rfl (.q rfl (QW.index_sl sl26 ty9 rfl (.tmp rfl) (.tmp rfl) rfl (by exact keysAV_getE (by omega)))) ?_
    refine .cons [19] rfl rfl rfl (.q rfl (QW.load_ref1 ty9 (.tmp rfl) rfl)) ?_
    refine .cons [] rfl rfl rfl (.q rfl (QW.move (.tmp rfl))) ?_
    refine .cons [] rfl rfl rfl (.q rfl (QW.move (.tmp rfl))) ?_
    refine .cons [21, 22] rfl rfl rfl (.q rfl (QW.index_sl sl26 ty9 rfl (.tmp rfl) (.tmp rfl) rfl (by exact keysAV_getE (by omega)))) ?_
    refine .cons [23] rfl rfl rfl (.q rfl (QW.load_ref1 ty9 (.tmp rfl) rfl)) ?_
    refine .nil ?_
    refine Zq rfl (QW.neq_s (.tmp rfl) (.tmp rfl)) (Zn ?_)
    refine J.cond (.tmp rfl) (fun c3 => ?_) (fun c3 => ?_)
    · skip
      have hne : a[k] ≠ b[k] := by simpa using c3
      exact Zs (Zq rfl (QW.assign .const) (Zn (J.ret (blkQ.r (thenQ.r (thenQ.r (blkQ.r (thenQ.r (Zr [] (RetEv.one rfl (REv.tmp rfl lr)) rfl ⟨ret_b (by simp; intro e; subst e; exact hne rfl), rfl⟩)))))))))
    have heq : a[k] = b[k] := by simpa using c3
    refine J.skip (blkQ.n (thenQ.n (J.region_lit (Zq rfl (QW.move (.tmp rfl)) (Zq rfl (QW.add (.tmp rfl) .const (w64 (by omega))) (Zq rfl (QW.assign (.tmp rfl)) (Zn ?_)))))))
    exact ⟨k + 1, ⟨hlt, (list_split hl heqs hlt).2 heq⟩, by omega, Wk.re (.cons rfl lr (.cons rfl lr (.cons rfl lr .nil))) (Reown.refl _) (fun _ h => by first | exact h | simp [h])⟩
  have hge : a.length ≤ k := by simpa [keysAV_length] using c2
  exact J.exit (thenQ.x (thenQ.x (blkQ.hit (thenQ.n (Zs (Zq rfl (QW.assign .const) (Zn (J.ret (Zr [] (RetEv.one rfl (REv.tmp rfl lr)) rfl ⟨ret_b (by simp; rw [List.take_of_length_le hge, List.take_of_length_le (by omega)] at heqs; exact heqs), rfl⟩)))))))))
theorem sames_drop {a b : List V} {k : Nat} (ha : k < a.length) (hb : k < b.length) : V.sames (a.drop k) (b.drop k) = (a[k].same b[k] && V.sames (a.drop (k + 1)) (b.drop (k + 1))) := by
  rw [List.drop_eq_getElem_cons ha, List.drop_eq_getElem_cons hb, V.sames]
theorem sames_len : ∀ {a b : List V}, V.sames a b = true → a.length = b.length
  | [], [], _ => rfl
  | x :: r, y :: s, h => by simp only [V.sames, Bool.and_eq_true] at h; simp [sames_len h.2]
  | [], _ :: _, h => by simp [V.sames] at h
  | _ :: _, [], h => by simp [V.sames] at h
theorem sameValue_n  : ∀ (n : Nat) {v u : V} {ys zs : List AV} {fr fr2 : Bool}, Vc fr v ys → Vc fr2 u zs → v.wf → u.wf → v.sz ≤ n →
    Fn Tryz.prog 13 [.agg ys, .agg zs] (.c (.bool (v.same u))) := by
  intro n
  induction n with
  | zero => intro v u ys zs fr fr2 hv hu hw hw2 h; exact absurd h (by have := V.sz_pos v; omega)
  | succ n ih =>
    intro v u ys zs fr fr2 hv hu hw hw2 hn
    obtain ⟨k, b, t, ks, is⟩ := v
    obtain ⟨k', b', t', ks', is'⟩ := u
    subst hv hu
    obtain ⟨-, -, -, hk16, hi80, -, hwi⟩ := hw.inv
    obtain ⟨-, -, -, hk16', hi80', -, hwi'⟩ := hw2.inv
    have h1 : is.length ≤ 9223372036854775806 := by unfold reach at hi80; omega
    have h2 : is'.length ≤ 9223372036854775806 := by unfold reach at hi80'; omega
    have h3 : ks.length ≤ 9223372036854775806 := by unfold reach at hk16; omega
    have h4 : ks'.length ≤ 9223372036854775806 := by unfold reach at hk16'; omega
    refine AC.of_J Tryz.func13 rfl Tryz.ntmps13 rfl fun w0 A0 => ?_
    refine Zs (JL.box_agg (.tmp rfl) rfl fun b2 => JL.box_agg (.tmp rfl) rfl fun b3 => Zq rfl (QW.assign .const) (Zn (J.seq (Zs (Zq rfl (QW.field_ptr fo29_0 (.tmp rfl) rfl) (Zq rfl (QW.load_box1 1 ty3 (.tmp rfl) rfl rfl) (Zq rfl (QW.field_ptr fo29_0 (.tmp rfl) rfl) ?_)))))))
    refine Zq rfl (QW.load_box1 0 ty3 (.tmp rfl) rfl rfl) (Zq rfl (QW.neq (.tmp rfl) (.tmp rfl)) (Zq rfl (QW.move (.tmp rfl)) (Zg rfl (fun hg => (QW.field_ptr fo29_1 (.tmp rfl) rfl)) (Zg rfl (fun hg => (QW.load_box1 1 ty22 (.when rfl hg) rfl rfl)) (Zg rfl (fun hg => (QW.field_ptr fo29_1 (.tmp rfl) rfl)) (Zg rfl (fun hg => (QW.load_box1 0 ty22 (.when rfl hg) rfl rfl)) (Zg rfl (fun hg => (QW.neq (.when rfl hg) (.when rfl hg))) (Zq rfl (QW.pick_or (.tmp rfl) (.tmp rfl)) (Zq rfl (QW.move (.tmp rfl)) ?_)))))))))
    refine Zg rfl (fun hg => (QW.field_ptr fo29_2 (.tmp rfl) rfl)) (Zg rfl (fun hg => (QW.load_box1 1 ty9 (.when rfl hg) rfl rfl)) (Zg rfl (fun hg => (QW.field_ptr fo29_2 (.tmp rfl) rfl)) (Zg rfl (fun hg => (QW.load_box1 0 ty9 (.when rfl hg) rfl rfl)) (Zg rfl (fun hg => (QW.neq_s (.when rfl hg) (.when rfl hg))) (Zq rfl (QW.pick_or (.tmp rfl) (.tmp rfl)) (Zq rfl (QW.move (.tmp rfl)) (Zg rfl (fun hg => (QW.field_ptr fo29_3 (.tmp rfl) rfl)) (Zg rfl (fun hg => (QW.load_box1 1 ty26 (.when rfl hg) rfl rfl)) (Zg rfl (fun hg => (QW.field_ptr fo29_3 (.tmp rfl) rfl)) ?_)))))))))
    refine Zg rfl (fun hg => (QW.load_box1 0 ty26 (.when rfl hg) rfl rfl)) (Zg rfl (fun hg => (QW.call gofn26 (.cons (.when rfl hg) (.cons (.when rfl hg) .nil)) (sameStrings_ok _ _ h3 h4))) (Zg rfl (fun hg => (QW.not (.when rfl hg))) (Zq rfl (QW.pick_or (.tmp rfl) (.tmp rfl)) (Zq rfl (QW.move (.tmp rfl)) (Zg rfl (fun hg => (QW.field_ptr fo29_4 (.tmp rfl) rfl)) (Zg rfl (fun hg => (QW.load_box1 1 ty27 (.when rfl hg) rfl rfl)) (Zg rfl (fun hg => (QW.len_sl sl27 (.when rfl hg))) (Zg rfl (fun hg => (QW.field_ptr fo29_4 (.tmp rfl) rfl)) (Zg rfl (fun hg => (QW.load_box1 0 ty27 (.when rfl hg) rfl rfl)) ?_)))))))))
    refine Zg rfl (fun hg => (QW.len_sl sl27 (.when rfl hg))) (Zg rfl (fun hg => (QW.neq (.when rfl hg) (.when rfl hg))) (Zq rfl (QW.pick_or (.tmp rfl) (.tmp rfl)) (Zn ?_)))
    refine J.cond (.tmp rfl) (fun c1 => ?_) (fun c1 => ?_)
    · skip
      simp [V.css_length] at c1
      exact Zs (Zq rfl (QW.assign .const) (Zn (J.ret (thenQ.r (Zr [.k, .k] (RetEv.one rfl (REv.tmp rfl lr)) rfl ⟨ret_b (by simp [V.same]; intro e1 e2 e3 e4; subst e1 e2 e3 e4; cases hs : V.sames is is' with | false => rfl | true => have := sames_len hs; simp at c1; omega), rfl⟩)))))
    simp [V.css_length] at c1
    obtain ⟨⟨⟨⟨e1, e2⟩, e3⟩, e4⟩, e5⟩ := c1
    have hl : is.length = is'.length := by omega
    refine Zk (J.seq (Zs (Zq rfl (QW.assign .const) (Zn (J.block (J.loopK (ι := Nat) [2, 3] (fun j => [(5, .c (.int .i64 (j : Int)))]) (fun _ oo => oo) (fun j => j ≤ is.length ∧ V.sames is is' = V.sames (is.drop j) (is'.drop j)) (fun j => is.length - j) 0 (⟨Nat.zero_le _, rfl⟩) (Wk.re (.cons rfl lr (.cons rfl lr (.cons rfl lr .nil))) (Reown.refl _) (fun _ h => by first | exact h | simp [h])) ?_))))))
    intro j ⟨hj, hs⟩
    refine J.conv (by (try simp only [nl, stepsO, valO, nthO, curO, mrg, AV.cellsOf, splice_zero, splice_succ, Nat.reduceAdd]); rfl) ?_
    refine J.seq (Zs (Zq rfl (QW.move (.tmp rfl)) (Zq rfl (QW.field_ptr fo29_4 (.tmp rfl) rfl) (Zq rfl (QW.load_box1 1 ty27 (.tmp rfl) rfl rfl) (Zq rfl (QW.len_sl sl27 (.tmp rfl)) (Zq rfl (QW.lss (.tmp rfl) (.tmp rfl)) (Zn ?_)))))))
    refine J.cond (.tmp rfl) (fun c2 => ?_) (fun c2 => ?_)
    · skip
      have hlt : j < is.length := by simpa [V.css_length] using c2
      have hlt2 : j < is'.length := by omega
      refine Zk (J.seq (J.block (J.seq (J.region_tailK 10 mixed (by kernel_rfl) (by kernel_rfl) (by kernel_rfl) rfl ?_))))
      refine .cons [] rfl rfl rfl (.q rfl (QW.field_ptr fo29_4 (.tmp rfl) rfl)) ?_
      refine .cons [49] rfl rfl rfl (.q rfl (QW.load_box1 1 ty27 (.tmp rfl) rfl rfl)) ?_
      refine .cons [] rfl rfl rfl (.q rfl (QW.move (.tmp rfl))) ?_
      refine .cons [50, 51] rfl rfl rfl (.q rfl (QW.index_sl sl27 ty29 rfl (.tmp rfl) (.tmp rfl) rfl (V.css_getE _ hlt))) ?_
      refine .cons [52] rfl rfl rfl (.q rfl (QW.load_ref ty29 (.tmp rfl) (take_at0 vl rfl) vl)) ?_
      refine .cons [] rfl rfl rfl (.q rfl (QW.field_ptr fo29_4 (.tmp rfl) rfl)) ?_
      refine .cons [54] rfl rfl rfl (.q rfl (QW.load_box1 0 ty27 (.tmp rfl) rfl rfl)) ?_
      refine .cons [] rfl rfl rfl (.q rfl (QW.move (.tmp rfl))) ?_
      refine .cons [55, 56] rfl rfl rfl (.q rfl (QW.index_sl sl27 ty29 rfl (.tmp rfl) (.tmp rfl) rfl (V.css_getE _ hlt2))) ?_
      refine .cons [57] rfl rfl rfl (.q rfl (QW.load_ref ty29 (.tmp rfl) (take_at0 vl rfl) vl)) ?_
      refine .nil ?_
      refine Zq rfl (QW.call gofn13 (.cons (.tmp rfl) (.cons (.tmp rfl) .nil)) (ih Vc.self Vc.self (hwi _ (List.getElem_mem _)) (hwi' _ (List.getElem_mem _)) (V.sz_get hn hlt))) (Zq rfl (QW.not (.tmp rfl)) (Zn ?_))
      refine J.cond (.tmp rfl) (fun c3 => ?_) (fun c3 => ?_)
      · skip
        simp at c3
        exact Zs (Zq rfl (QW.assign .const) (Zn (J.ret (blkQ.r (thenQ.r (thenQ.r (blkQ.r (thenQ.r (Zr [.k, .k] (RetEv.one rfl (REv.tmp rfl lr)) rfl ⟨ret_b (by rw [sames_drop hlt hlt2, c3] at hs; simp [V.same, hs]), rfl⟩)))))))))
      simp at c3
      refine J.skip (blkQ.n (thenQ.n (J.region_lit (Zq rfl (QW.move (.tmp rfl)) (Zq rfl (QW.add (.tmp rfl) .const (w64 (by omega))) (Zq rfl (QW.assign (.tmp rfl)) (Zn ?_)))))))
      rw [sames_drop hlt hlt2, c3, Bool.true_and] at hs
      exact ⟨j + 1, ⟨hlt, hs⟩, by omega, Wk.re (.cons rfl lr (.cons rfl lr (.cons rfl lr .nil))) (Reown.refl _) (fun _ h => by first | exact h | simp [h])⟩
    have hge : is.length ≤ j := by simpa [V.css_length] using c2
    refine J.exit (thenQ.x (thenQ.x (blkQ.hit (thenQ.n (Zs (Zq rfl (QW.assign .const) (Zn (J.ret ?_))))))))
    have hz : V.sames is is' = true := by
      rw [hs, List.drop_of_length_le hge, List.drop_of_length_le (by omega), V.sames]
    exact Zr [.k, .k] (RetEv.one rfl (REv.tmp rfl lr)) rfl ⟨ret_b (by simp [V.same, hz, e3, e4]; omega), rfl⟩
theorem copyValue_n  : ∀ (n : Nat) {v : V} {ys : List AV} {fr : Bool}, Vc fr v ys → v.wf → v.sz ≤ n → AC Tryz.prog 22 [] [.agg ys] (RetR (CopyR v)) := by
  intro n
  induction n with
  | zero => intro v ys fr hv hw h; exact absurd h (by have := V.sz_pos v; omega)
  | succ n ih =>
    intro v ys fr hv hw hn
    obtain ⟨k, b, t, ks, is⟩ := v
    subst hv
    obtain ⟨-, -, -, hk16, hi80, -, hwi⟩ := hw.inv
    have h1 : is.length ≤ 9223372036854775806 := by unfold reach at hi80; omega
    refine AC.of_J Tryz.func22 rfl Tryz.ntmps22 rfl fun w0 A0 => ?_
    refine Zs (JL.box_agg (.tmp rfl) rfl fun b1 => JL.alloc z29 rfl rfl fun b2 => Zn (Zs (Zq rfl (QW.assign .const) (Zn (Zs (Zq rfl (QW.assign .const) (Zn ?_)))))))
    refine J.seq (Zs (Zq rfl (QW.assign .const) (Zn (J.block (J.reown (Reown.nilArrE eV _) (J.reown (Reown.nilGrpE _) (J.loopK (ι := Nat × Value × List (List AV) × List Value × Own) [1, 2, 3] (fun ⟨j, v, cs, us, o⟩ => [(5, .c (.int .i64 (j : Int))), (4, .c v)]) (fun ⟨j, v, cs, us, o⟩ oo => List.set (List.set oo 2 (.arr v eV cs)) 3 (o)) (fun ⟨j, v, cs, us, o⟩ => j ≤ is.length ∧ KidsTr (is.take j) cs us o) (fun ⟨j, v, cs, us, o⟩ => is.length - j) ⟨0, .slice none 0 0, [], [], .grp []⟩ (⟨Nat.zero_le _, .nil⟩) (Wk.re (.cons rfl lr (.cons rfl lr (.cons rfl lr (.cons rfl lr (.cons rfl lr .nil))))) (Reown.refl _) (fun _ h => by first | exact h | simp [h])) ?_)))))))
    intro ⟨j, v, cs, us, o⟩ ⟨hj, hK⟩
    refine J.conv (by (try simp only [nl, stepsO, valO, nthO, curO, mrg, AV.cellsOf, splice_zero, splice_succ, Nat.reduceAdd]); rfl) ?_
    refine J.seq (Zs (Zq rfl (QW.move (.tmp rfl)) (Zq rfl (QW.field_ptr fo29_4 (.tmp rfl) rfl) (Zq rfl (QW.load_box1 1 ty27 (.tmp rfl) rfl rfl) (Zq rfl (QW.len_sl sl27 (.tmp rfl)) (Zq rfl (QW.lss (.tmp rfl) (.tmp rfl)) (Zn ?_)))))))
    refine J.cond (.tmp rfl) (fun c1 => ?_) (fun c1 => ?_)
    · skip
      have hlt : j < is.length := by simpa [V.css_length] using c1
      refine Zk (J.seq (J.block (J.region_lit (Zq rfl (QW.move (.tmp rfl)) (Zq rfl (QW.field_ptr fo29_4 (.tmp rfl) rfl) (Zq rfl (QW.load_box1 1 ty27 (.tmp rfl) rfl rfl) (Zq rfl (QW.move (.tmp rfl)) (Zq rfl (QW.index_sl sl27 ty29 rfl (.tmp rfl) (.tmp rfl) rfl (by exact V.css_getE _ hlt)) ?_))))))))
      refine Zq rfl (QW.load_ref ty29 (.tmp rfl) (take_at0 vl rfl) vl) (JL.callRF [] gofn22 rfl Lent.nil (fun _ => (.cons (.tmp rfl) .nil)) (ih Vc.self (hwi _ (List.getElem_mem _)) (V.sz_get hn hlt)) (.inl rfl) fun x19 o19 h19 => ?_)
      obtain ⟨kv19, iv19, ok19, oi19, rfl, rfl, hV19⟩ := h19
      refine Zq rfl (QW.buildSlice (idx := [0]) (xs := [is[j].raw kv19 iv19]) sl27 el29 z29 rfl (.cons (.tmp rfl) .nil) rfl rfl rfl rfl rfl rfl rfl rfl rfl) (JL.append 2 sl27 el29 rfl (.tmp rfl) rfl (srcA_sl sl27 (.tmp rfl)) (by have := hK.h2; rw [List.length_take] at this; simp; unfold reach at *; omega) rfl fun v21 => ?_)
      refine Zq rfl (QW.assign (.tmp rfl)) (JL.nil (blkQ.n (thenQ.n (J.region_lit (Zq rfl (QW.move (.tmp rfl)) (Zq rfl (QW.add (.tmp rfl) .const (w64 (by omega))) (Zq rfl (QW.assign (.tmp rfl)) (Zn ?_))))))))
      exact ⟨⟨j + 1, _, _, _, _⟩, ⟨hlt, by rw [List.take_succ_eq_append_getElem hlt]; exact hK.snoc hV19⟩, by show is.length - (j + 1) < is.length - j; omega, Wk.re (.cons rfl lr (.cons rfl lr (.cons rfl lr (.cons rfl lr (.cons rfl lr .nil))))) ((Reown.cons (Reown.cons (Reown.cons (Reown.tri _ _ _ _))))) (fun _ h => by first | exact h | simp [h])⟩
    have hge : is.length ≤ j := by simpa [V.css_length] using c1
    refine J.exit (thenQ.x (thenQ.x (blkQ.hit (thenQ.n (J.seq (J.reown (Reown.nilArrE eStr _) (J.region_lit (Zq rfl (QW.move (.tmp rfl)) (Zq rfl (QW.field_ptr fo29_3 (.tmp rfl) rfl) ?_)))))))))
    refine Zq rfl (QW.load_box1 1 ty26 (.tmp rfl) rfl rfl) (JL.append 4 sl26 el9 rfl (.tmp rfl) rfl (srcA_sl sl26 (.tmp rfl)) (by rw [keysAV_length]; simpa using hk16) rfl fun v25 => ?_)
    refine Zq rfl (QW.move (.tmp rfl)) (Zq rfl (QW.field_ptr fo29_3 (.tmp rfl) rfl) (JL.isSlice 4 rfl fun hs2 => JL.isSlice 2 rfl fun hs1 => JL.store_box 1 ty26 (.tmp rfl) rfl (.tmp rfl) (by assumption) rfl rfl rfl rfl ?_))
    refine Zq rfl (QW.field_ptr fo29_4 (.tmp rfl) rfl) (JL.store_box 1 ty27 (.tmp rfl) rfl (.tmp rfl) (by assumption) rfl rfl rfl rfl ?_)
    refine Zn (J.seq (J.reown (Reown.cons (Reown.cons (Reown.rot3g _ _ _ _))) (J.region_lit (Zq rfl (QW.load_box 1 ty29 (.tmp rfl) rfl rfl rfl) (JL.store_boxF 0 ty29 (.tmp rfl) rfl (.tmp rfl) rfl rfl rfl rfl (Zn (J.ret ?_)))))))
    obtain rfl : j = is.length := by omega
    rw [List.take_length] at hK
    exact Zr [.k, .k, .p, .p] (RetEv.one rfl (REv.cell 0 ty29 rfl rfl rfl rfl lr)) rfl ⟨_, rfl, _, _, _, _, rfl, rfl, hs2, hs1, keys_tr hk16, hK.tr hi80⟩
end Go.Proofs.YtjhonjdhanlbkaaGreat.J

/- Walks: the page's copy of a value; the program's; lists that are copied. -/
namespace Go.Proofs.YtjhonjdhanlbkaaGreat.J
open Go Go.RowKit
set_option maxRecDepth 10000
set_option maxHeartbeats 4000000
theorem copyValue_ok {v : V} {ys : List AV} {fr : Bool} (hv : Vc fr v ys) (hw : v.wf) : AC Tryz.prog 22 [] [.agg ys] (RetR (CopyR v)) := copyValue_n _ hv hw (Nat.le_refl _)
theorem sameValue_ok {v u : V} {ys zs : List AV} {fr fr2 : Bool} (hv : Vc fr v ys) (hu : Vc fr2 u zs) (hw : v.wf) (hw2 : u.wf) : Fn Tryz.prog 13 [.agg ys, .agg zs] (.c (.bool (v.same u))) := sameValue_n _ hv hu hw hw2 (Nat.le_refl _)
theorem rown_n  : ∀ (n : Nat) {v : V} {ys : List AV} {fr : Bool}, Vc fr v ys → v.wf → v.sz ≤ n → AC Tryz.prog 35 [] [.agg ys] (RetR (CopyR v)) := by
  intro n
  induction n with
  | zero => intro v ys fr hv hw h; exact absurd h (by have := V.sz_pos v; omega)
  | succ n ih =>
    intro v ys fr hv hw hn
    obtain ⟨k, b, t, ks, is⟩ := v
    subst hv
    obtain ⟨-, -, -, hk16, hi80, -, hwi⟩ := hw.inv
    have h1 : is.length ≤ 9223372036854775806 := by unfold reach at hi80; omega
    refine AC.of_J Tryz.func35 rfl Tryz.ntmps35 rfl fun w0 A0 => ?_
    refine Zs (JL.box_agg (.tmp rfl) rfl fun b1 => JL.alloc z29 rfl rfl fun b2 => Zn (Zs (Zq rfl (QW.assign .const) (Zn (Zs (Zq rfl (QW.assign .const) (Zn ?_)))))))
    refine J.seq (J.reown (Reown.nilArrE eStr _) (J.region_lit (Zq rfl (QW.move (.tmp rfl)) (Zq rfl (QW.field_ptr fo29_3 (.tmp rfl) rfl) (Zq rfl (QW.load_box1 1 ty26 (.tmp rfl) rfl rfl) (JL.append 2 sl26 el9 rfl (.tmp rfl) rfl (srcA_sl sl26 (.tmp rfl)) (by rw [keysAV_length]; simpa using hk16) rfl fun v9 => ?_))))))
    refine Zq rfl (QW.assign (.tmp rfl)) (Zn (J.seq (Zs (Zq rfl (QW.assign .const) (Zn (J.block (J.reown (Reown.nilArrE eV _) (J.reown (Reown.nilGrpE _) (J.loopK (ι := Nat × Value × List (List AV) × List Value × Own) [1, 2, 3] (fun ⟨j, v, cs, us, o⟩ => [(5, .c (.int .i64 (j : Int))), (4, .c v)]) (fun ⟨j, v, cs, us, o⟩ oo => List.set (List.set oo 3 (.arr v eV cs)) 4 (o)) (fun ⟨j, v, cs, us, o⟩ => j ≤ is.length ∧ KidsTr (is.take j) cs us o) (fun ⟨j, v, cs, us, o⟩ => is.length - j) ⟨0, .slice none 0 0, [], [], .grp []⟩ (⟨Nat.zero_le _, .nil⟩) (Wk.re (.cons rfl lr (.cons rfl lr (.cons rfl lr (.cons rfl lr (.cons rfl lr .nil))))) (Reown.refl _) (fun _ h => by first | exact h | simp [h])) ?_)))))))))
    intro ⟨j, v, cs, us, o⟩ ⟨hj, hK⟩
    refine J.conv (by (try simp only [nl, stepsO, valO, nthO, curO, mrg, AV.cellsOf, splice_zero, splice_succ, Nat.reduceAdd]); rfl) ?_
    refine J.seq (Zs (Zq rfl (QW.move (.tmp rfl)) (Zq rfl (QW.field_ptr fo29_4 (.tmp rfl) rfl) (Zq rfl (QW.load_box1 1 ty27 (.tmp rfl) rfl rfl) (Zq rfl (QW.len_sl sl27 (.tmp rfl)) (Zq rfl (QW.lss (.tmp rfl) (.tmp rfl)) (Zn ?_)))))))
    refine J.cond (.tmp rfl) (fun c1 => ?_) (fun c1 => ?_)
    · skip
      have hlt : j < is.length := by simpa [V.css_length] using c1
      refine Zk (J.seq (J.block (J.region_lit (Zq rfl (QW.move (.tmp rfl)) (Zq rfl (QW.field_ptr fo29_4 (.tmp rfl) rfl) (Zq rfl (QW.load_box1 1 ty27 (.tmp rfl) rfl rfl) (Zq rfl (QW.move (.tmp rfl)) (Zq rfl (QW.index_sl sl27 ty29 rfl (.tmp rfl) (.tmp rfl) rfl (by exact V.css_getE _ hlt)) ?_))))))))
      refine Zq rfl (QW.load_ref ty29 (.tmp rfl) (take_at0 vl rfl) vl) (JL.callRF [] gofn35 rfl Lent.nil (fun _ => (.cons (.tmp rfl) .nil)) (ih Vc.self (hwi _ (List.getElem_mem _)) (V.sz_get hn hlt)) (.inl rfl) fun x23 o23 h23 => ?_)
      obtain ⟨kv23, iv23, ok23, oi23, rfl, rfl, hV23⟩ := h23
      refine Zq rfl (QW.buildSlice (idx := [0]) (xs := [is[j].raw kv23 iv23]) sl27 el29 z29 rfl (.cons (.tmp rfl) .nil) rfl rfl rfl rfl rfl rfl rfl rfl rfl) (JL.append 3 sl27 el29 rfl (.tmp rfl) rfl (srcA_sl sl27 (.tmp rfl)) (by have := hK.h2; rw [List.length_take] at this; simp; unfold reach at *; omega) rfl fun v25 => ?_)
      refine Zq rfl (QW.assign (.tmp rfl)) (JL.nil (blkQ.n (thenQ.n (J.region_lit (Zq rfl (QW.move (.tmp rfl)) (Zq rfl (QW.add (.tmp rfl) .const (w64 (by omega))) (Zq rfl (QW.assign (.tmp rfl)) (Zn ?_))))))))
      exact ⟨⟨j + 1, _, _, _, _⟩, ⟨hlt, by rw [List.take_succ_eq_append_getElem hlt]; exact hK.snoc hV23⟩, by show is.length - (j + 1) < is.length - j; omega, Wk.re (.cons rfl lr (.cons rfl lr (.cons rfl lr (.cons rfl lr (.cons rfl lr .nil))))) ((Reown.cons (Reown.cons (Reown.cons (Reown.cons (Reown.tri _ _ _ _)))))) (fun _ h => by first | exact h | simp [h])⟩
    have hge : is.length ≤ j := by simpa [V.css_length] using c1
    refine J.exit (thenQ.x (thenQ.x (blkQ.hit (thenQ.n (Zs (Zq rfl (QW.move (.tmp rfl)) (Zq rfl (QW.move (.tmp rfl)) (Zq rfl (QW.field_ptr fo29_3 (.tmp rfl) rfl) (JL.isSlice 2 rfl fun hs2 => ?_)))))))))
    refine JL.isSlice 3 rfl fun hs1 => JL.store_box 1 ty26 (.tmp rfl) rfl (.tmp rfl) (by assumption) rfl rfl rfl rfl ?_
    refine Zq rfl (QW.field_ptr fo29_4 (.tmp rfl) rfl) (JL.store_box 1 ty27 (.tmp rfl) rfl (.tmp rfl) (by assumption) rfl rfl rfl rfl ?_)
    refine Zn (J.seq (J.reown (Reown.cons (Reown.cons (Reown.cons (Reown.grp2 _ _ _)))) (J.region_lit (Zq rfl (QW.load_box 1 ty29 (.tmp rfl) rfl rfl rfl) (JL.store_boxF 0 ty29 (.tmp rfl) rfl (.tmp rfl) rfl rfl rfl rfl (Zn (J.ret ?_)))))))
    obtain rfl : j = is.length := by omega
    rw [List.take_length] at hK
    exact Zr [.k, .k, .p, .p] (RetEv.one rfl (REv.cell 0 ty29 rfl rfl rfl rfl lr)) rfl ⟨_, rfl, _, _, _, _, rfl, rfl, hs2, hs1, keys_tr hk16, hK.tr hi80⟩
theorem rown_ok {v : V} {ys : List AV} {fr : Bool} (hv : Vc fr v ys) (hw : v.wf) : AC Tryz.prog 35 [] [.agg ys] (RetR (CopyR v)) := rown_n _ hv hw (Nat.le_refl _)
theorem rown_rd {v : V} {ys : List AV} {fr : Bool} (hv : Vc fr v ys) (hw : v.wf) : Fn Tryz.prog 35 [.agg ys] (.agg (v.cs true)) := .ofCopy (rown_ok hv hw)
def CloneR (e : ETy) (xs : List (List AV)) : AV → List Own → Prop := fun x o => ∃ v, x = .c v ∧ v.oneCell' = true ∧ o = [.arr v e xs]
theorem cloneStr_ok {fr : Bool} (xs : List (List AV)) (hr : xs.length * 16 ≤ reach) : AC Tryz.prog 43 [] [.sl fr false eStr xs] (RetR (CloneR eStr xs)) := by
  refine AC.of_J Tryz.func43 rfl Tryz.ntmps43 rfl fun w0 A0 => ?_
  refine Zs (Zq rfl (QW.assign .const) (Zn (J.seq (Zs (Zq rfl (QW.move (.tmp rfl)) (JL.eqnil sl26 (.tmp rfl) .const rfl fun n4 hn4 => Zn ?_))))))
  refine J.cond (.tmp rfl) (fun c1 => ?_) (fun c1 => ?_)
  · skip
    refine J.seq (J.reown (Reown.nilArrE eStr _) (J.region_lit (Zq rfl (QW.assign .const) (Zn (J.ret (thenQ.r ?_))))))
    obtain rfl : xs = [] := hn4 c1
    exact Zr [.p] (RetEv.one rfl (REv.tmp rfl lr)) rfl ⟨_, rfl, _, rfl, rfl, rfl⟩
  refine Zk (Zs (JL.buildSlice0 sl26 el9 rfl rfl fun v5 => Zq rfl (QW.move (.tmp rfl)) (JL.append 0 sl26 el9 rfl (.tmp rfl) rfl (srcA_sl sl26 (.tmp rfl)) (by simpa using hr) rfl fun v7 => ?_)))
  exact JL.isSlice 0 rfl fun hs1 => Zq rfl (QW.assign (.tmp rfl)) (Zn (J.ret (Zr [.p] (RetEv.one rfl (REv.tmp rfl lr)) rfl ⟨_, rfl, _, rfl, hs1, rfl⟩)))
theorem cloneVal_ok {fr : Bool} (xs : List (List AV)) (hr : xs.length * 80 ≤ reach) : AC Tryz.prog 44 [] [.sl fr false eV xs] (RetR (CloneR eV xs)) := by
  refine AC.of_J Tryz.func44 rfl Tryz.ntmps44 rfl fun w0 A0 => ?_
  refine Zs (Zq rfl (QW.assign .const) (Zn (J.seq (Zs (Zq rfl (QW.move (.tmp rfl)) (JL.eqnil sl27 (.tmp rfl) .const rfl fun n4 hn4 => Zn ?_))))))
  refine J.cond (.tmp rfl) (fun c1 => ?_) (fun c1 => ?_)
  · skip
    refine J.seq (J.reown (Reown.nilArrE eV _) (J.region_lit (Zq rfl (QW.assign .const) (Zn (J.ret (thenQ.r ?_))))))
    obtain rfl : xs = [] := hn4 c1
    exact Zr [.p] (RetEv.one rfl (REv.tmp rfl lr)) rfl ⟨_, rfl, _, rfl, rfl, rfl⟩
  refine Zk (Zs (JL.buildSlice0 sl27 el29 rfl rfl fun v5 => Zq rfl (QW.move (.tmp rfl)) (JL.append 0 sl27 el29 rfl (.tmp rfl) rfl (srcA_sl sl27 (.tmp rfl)) (by simpa using hr) rfl fun v7 => ?_)))
  exact JL.isSlice 0 rfl fun hs1 => Zq rfl (QW.assign (.tmp rfl)) (Zn (J.ret (Zr [.p] (RetEv.one rfl (REv.tmp rfl lr)) rfl ⟨_, rfl, _, rfl, hs1, rfl⟩)))
theorem clone_get {cs : List (List AV)} {is : List V} {j : Nat} (fr : Bool) (hc : cs.length = j) (h : j < is.length) : (cs ++ V.css fr (is.drop j))[j]? = some (V.cs fr is[j]) := by
  rw [List.getElem?_append_right (by omega), hc, Nat.sub_self, List.drop_eq_getElem_cons h]; rfl
theorem clone_set {cs : List (List AV)} {is : List V} {j : Nat} {fr : Bool} {z : List AV} (hc : cs.length = j) (h : j < is.length) : (cs ++ V.css fr (is.drop j)).set j z = (cs ++ [z]) ++ V.css fr (is.drop (j + 1)) := by
  rw [List.set_append_right _ _ (by omega), hc, Nat.sub_self, List.drop_eq_getElem_cons h]
  simp [V.css]
theorem splice_all {ys zs : List AV} (h : zs.length = ys.length) : splice ys 0 zs = zs := by unfold splice; simp [h]
theorem clone_n  : ∀ (n : Nat) {v : V} {ys : List AV} {fr : Bool}, Vc fr v ys → v.wf → v.sz ≤ n → AC Tryz.prog 32 [] [.agg ys] (RetR (CopyR v)) := by
  intro n
  induction n with
  | zero => intro v ys fr hv hw h; exact absurd h (by have := V.sz_pos v; omega)
  | succ n ih =>
    intro v ys fr hv hw hn
    obtain ⟨k, b, t, ks, is⟩ := v
    subst hv
    obtain ⟨-, -, -, hk16, hi80, -, hwi⟩ := hw.inv
    have h1 : is.length ≤ 9223372036854775806 := by unfold reach at hi80; omega
    refine AC.of_J Tryz.func32 rfl Tryz.ntmps32 rfl fun w0 A0 => ?_
    refine Zs (JL.box_agg (.tmp rfl) rfl fun b1 => JL.alloc z29 rfl rfl fun b2 => Zn (J.seq (J.region_outK 7 2 (fun os_ ow_ x_ o_ => match os_ with | [] => (∃ o2_, (CloneR eStr (keysAV ks)) x_ o2_ ∧ o_ = mrg [] o2_ ow_) | [(x0_, _)] => (∃ o2_, (CloneR eV (V.css fr is)) x_ o2_ ∧ o_ = mrg [] o2_ ow_) | _ => False) mixed (by kernel_rfl) (by kernel_rfl) (by kernel_rfl) rfl ?_)))
    refine OutK.quiet [] rfl rfl rfl (fun qs_ qv_ ql_ => (.q rfl (QW.field_ptr fo29_3 (.tmp rfl) rfl))) ?_
    refine OutK.quiet [5] rfl rfl rfl (fun qs_ qv_ ql_ => by
        rcases qs_ with _ | ⟨⟨y0, p0⟩, qs_⟩
        · skip
          exact (.q rfl (QW.load_box1 1 ty26 (.tmp rfl) rfl rfl))
        rcases qs_ with _ | ⟨⟨y1, p1⟩, qs_⟩
        · skip
          obtain ⟨hr0, _⟩ := qv_
          obtain ⟨o7, ⟨kv7, rfl, hs7, rfl⟩, rfl⟩ := hr0
          exact (.q rfl (QW.load_box1 1 ty26 (.tmp rfl) rfl rfl))
        rcases qs_ with _ | ⟨⟨y2, p2⟩, qs_⟩
        · skip
          obtain ⟨hr1, hr0, _⟩ := qv_
          obtain ⟨o7, ⟨kv7, rfl, hs7, rfl⟩, rfl⟩ := hr0
          obtain ⟨o10, ⟨iv10, rfl, hs10, rfl⟩, rfl⟩ := hr1
          exact (.q rfl (QW.load_box1 1 ty26 (.tmp rfl) rfl rfl))
        exact absurd ql_ (by simp)) ?_
    refine OutK.loud [6] rfl rfl rfl rfl rfl (fun qs_ qv_ ql_ => by
        obtain rfl : qs_ = [] := List.length_eq_zero_iff.1 ql_
        exact LStepR.callRF (d := 7) [] gofn43 Lent.nil (fun _ => (.cons (.tmp rfl) .nil)) (cloneStr_ok _ (by rw [keysAV_length]; exact hk16)) (.inl rfl)) ?_
    refine OutK.quiet [] rfl rfl rfl (fun qs_ qv_ ql_ => (.q rfl (QW.field_ptr fo29_4 (.tmp rfl) rfl))) ?_
    refine OutK.quiet [8] rfl rfl rfl (fun qs_ qv_ ql_ => by
        rcases qs_ with _ | ⟨⟨y0, p0⟩, qs_⟩
        · skip
          exact (.q rfl (QW.load_box1 1 ty27 (.tmp rfl) rfl rfl))
        rcases qs_ with _ | ⟨⟨y1, p1⟩, qs_⟩
        · skip
          obtain ⟨hr0, _⟩ := qv_
          obtain ⟨o7, ⟨kv7, rfl, hs7, rfl⟩, rfl⟩ := hr0
          exact (.q rfl (QW.load_box1 1 ty27 (.tmp rfl) rfl rfl))
        rcases qs_ with _ | ⟨⟨y2, p2⟩, qs_⟩
        · skip
          obtain ⟨hr1, hr0, _⟩ := qv_
          obtain ⟨o7, ⟨kv7, rfl, hs7, rfl⟩, rfl⟩ := hr0
          obtain ⟨o10, ⟨iv10, rfl, hs10, rfl⟩, rfl⟩ := hr1
          exact (.q rfl (QW.load_box1 1 ty27 (.tmp rfl) rfl rfl))
        exact absurd ql_ (by simp)) ?_
    refine OutK.loud [9] rfl rfl rfl rfl rfl (fun qs_ qv_ ql_ => by
        obtain ⟨⟨y0, p0⟩, qs_, rfl⟩ : ∃ p t, qs_ = p :: t := by (cases qs_ with | nil => simp at ql_ | cons p t => exact ⟨p, t, rfl⟩)
        obtain rfl : qs_ = [] := List.length_eq_zero_iff.1 (by simpa using ql_)
        obtain ⟨hr0, _⟩ := qv_
        obtain ⟨o7, ⟨kv7, rfl, hs7, rfl⟩, rfl⟩ := hr0
        exact LStepR.callRF (d := 10) [] gofn44 Lent.nil (fun _ => (.cons (.tmp rfl) .nil)) (cloneVal_ok _ (by rw [V.css_length]; exact hi80)) (.inl rfl)) ?_
    refine OutK.quiet [] rfl rfl rfl (fun qs_ qv_ ql_ => (.q rfl (QW.field_ptr fo29_3 (.tmp rfl) rfl))) ?_
    refine .nil fun qs_ qv_ ql_ => ?_
    obtain ⟨⟨y1, p1⟩, qs_, rfl⟩ : ∃ p t, qs_ = p :: t := by (cases qs_ with | nil => simp at ql_ | cons p t => exact ⟨p, t, rfl⟩)
    simp only [List.length_cons, Nat.add_right_cancel_iff] at ql_
    obtain ⟨⟨y0, p0⟩, qs_, rfl⟩ : ∃ p t, qs_ = p :: t := by (cases qs_ with | nil => simp at ql_ | cons p t => exact ⟨p, t, rfl⟩)
    obtain rfl : qs_ = [] := List.length_eq_zero_iff.1 (by simpa using ql_)
    obtain ⟨hr1, hr0, _⟩ := qv_
    obtain ⟨o7, ⟨kv7, rfl, hs7, rfl⟩, rfl⟩ := hr0
    obtain ⟨o10, ⟨iv10, rfl, hs10, rfl⟩, rfl⟩ := hr1
    refine JL.conv (by (try simp only [nl, stepsO, valO, nthO, curO, mrg, AV.cellsOf, splice_zero, splice_succ, Nat.reduceAdd]); rfl) ?_
    refine JL.store_box 1 ty26 (.tmp rfl) rfl (.tmp rfl) (by assumption) rfl rfl rfl rfl ?_
    refine Zq rfl (QW.field_ptr fo29_4 (.tmp rfl) rfl) (JL.store_box 1 ty27 (.tmp rfl) rfl (.tmp rfl) (by assumption) rfl rfl rfl rfl ?_)
    refine Zn (J.seq (Zs (Zq rfl (QW.field_ptr fo29_4 (.tmp rfl) rfl) (Zq rfl (QW.load_box1 1 ty27 (.tmp rfl) rfl rfl) (Zq rfl (QW.len_arr 3 sl27 (.tmp rfl) rfl) (Zq rfl (QW.move .const) (Zn (J.block (J.reown (Reown.nilGrpE _) ?_)))))))))
    refine J.loopK (ι := Nat × List (List AV) × List Value × Own) [1, 2, 14, 15] (fun ⟨j, cs, us, o⟩ => [(16, .c (.int .i64 (j : Int)))]) (fun ⟨j, cs, us, o⟩ oo => List.set (List.set oo 3 (.arr iv10 eV (cs ++ V.css fr (is.drop j)))) 4 (o)) (fun ⟨j, cs, us, o⟩ => j ≤ is.length ∧ KidsTr (is.take j) cs us o) (fun ⟨j, cs, us, o⟩ => is.length - j) ⟨0, [], [], .grp []⟩ (⟨Nat.zero_le _, .nil⟩) (Wk.re (.cons rfl lr (.cons rfl lr (.cons rfl lr (.cons rfl lr (.cons rfl lr .nil))))) (Reown.refl _) (fun _ h => by first | exact h | simp [h])) ?_
    intro ⟨j, cs, us, o⟩ ⟨hj, hK⟩
    refine J.conv (by (try simp only [nl, stepsO, valO, nthO, curO, mrg, AV.cellsOf, splice_zero, splice_succ, Nat.reduceAdd]); rfl) ?_
    refine Zs (Zq rfl (QW.lss (.tmp rfl) (.tmp rfl)) (Zn (J.seq ?_)))
    refine J.cond (.tmp rfl) (fun c1 => ?_) (fun c1 => ?_)
    · skip
      have hlt : j < is.length := by simpa [V.css_length] using c1
      have hcl : cs.length = j := by have := hK.h2; rw [List.length_take] at this; omega
      refine Zk (J.seq (J.block (Zs (Zq rfl (QW.move (.tmp rfl)) (Zq rfl (QW.index_arr 3 sl27 ty29 rfl (.tmp rfl) rfl (.tmp rfl) rfl (by simp [V.css_length]; omega) rfl) ?_)))))
      refine Zq rfl (QW.load_gp 3 ty29 (.tmp rfl) rfl (by exact clone_get fr hcl hlt) rfl (take_full vl) vl) ?_
      refine JL.alloc z29 rfl rfl fun b4 => Zq rfl (QW.assign (.tmp rfl)) (JL.store_boxF 0 ty29 (.tmp rfl) rfl (.tmp rfl) rfl vl rfl rfl (Zn (J.region_outK 5 1 (fun os_ ow_ x_ o_ => match os_ with | [] => (∃ o2_, (CopyR is[j]) x_ o2_ ∧ o_ = mrg [] o2_ ow_) | _ => False) mixed (by kernel_rfl) (by kernel_rfl) (by kernel_rfl) rfl ?_)))
      refine OutK.quiet [] rfl rfl rfl (fun qs_ qv_ ql_ => (.q rfl (QW.field_ptr fo29_4 (.tmp rfl) rfl))) ?_
      refine OutK.quiet [21] rfl rfl rfl (fun qs_ qv_ ql_ => by
          rcases qs_ with _ | ⟨⟨y0, p0⟩, qs_⟩
          · skip
            exact (.q rfl (QW.load_box1 2 ty27 (.tmp rfl) rfl rfl))
          rcases qs_ with _ | ⟨⟨y1, p1⟩, qs_⟩
          · skip
            obtain ⟨hr0, _⟩ := qv_
            obtain ⟨o25, ⟨kv25, iv25, ok25, oi25, rfl, rfl, hV25⟩, rfl⟩ := hr0
            exact (.q rfl (QW.load_box1 2 ty27 (.tmp rfl) rfl rfl))
          exact absurd ql_ (by simp)) ?_
      refine OutK.quiet [] rfl rfl rfl (fun qs_ qv_ ql_ => (.q rfl (QW.move (.tmp rfl)))) ?_
      refine OutK.quiet [] rfl rfl rfl (fun qs_ qv_ ql_ => by
          rcases qs_ with _ | ⟨⟨y0, p0⟩, qs_⟩
          · skip
            exact (.q rfl (QW.load_box 0 ty29 (.tmp rfl) rfl (take_at vl rfl) vl))
          rcases qs_ with _ | ⟨⟨y1, p1⟩, qs_⟩
          · skip
            obtain ⟨hr0, _⟩ := qv_
            obtain ⟨o25, ⟨kv25, iv25, ok25, oi25, rfl, rfl, hV25⟩, rfl⟩ := hr0
            exact (.q rfl (QW.load_box 0 ty29 (.tmp rfl) rfl (take_at vl rfl) vl))
          exact absurd ql_ (by simp)) ?_
      refine OutK.loud [24] rfl rfl rfl rfl rfl (fun qs_ qv_ ql_ => by
          obtain rfl : qs_ = [] := List.length_eq_zero_iff.1 ql_
          exact LStepR.callRF (d := 25) [] gofn32 Lent.nil (fun _ => (.cons (.tmp rfl) .nil)) (ih Vc.self (hwi _ (List.getElem_mem _)) (V.sz_get hn hlt)) (.inl rfl)) ?_
      refine .nil fun qs_ qv_ ql_ => ?_
      obtain ⟨⟨y0, p0⟩, qs_, rfl⟩ : ∃ p t, qs_ = p :: t := by (cases qs_ with | nil => simp at ql_ | cons p t => exact ⟨p, t, rfl⟩)
      obtain rfl : qs_ = [] := List.length_eq_zero_iff.1 (by simpa using ql_)
      obtain ⟨hr0, _⟩ := qv_
      obtain ⟨o25, ⟨kv25, iv25, ok25, oi25, rfl, rfl, hV25⟩, rfl⟩ := hr0
      refine JL.conv (by (try simp only [nl, stepsO, valO, nthO, curO, mrg, AV.cellsOf, splice_zero, splice_succ, Nat.reduceAdd]); rfl) ?_
      refine Zq rfl (QW.index_arr 4 sl27 ty29 rfl (.tmp rfl) rfl (.tmp rfl) rfl (by simp [V.css_length]; omega) rfl) ?_
      refine JL.store_gp 4 ty29 (.tmp rfl) rfl (clone_get fr hcl hlt) rfl (.tmp rfl) rfl rfl rfl ((congrArg (List.set _ _) (splice_all (by rw [V.cs_length]; try rfl))).trans (clone_set hcl hlt)) rfl ?_
      refine JL.nil (blkQ.n (thenQ.n (J.region_lit (Zq rfl (QW.add (.tmp rfl) .const (w64 (by omega))) (Zq rfl (QW.move (.tmp rfl)) (Zn ?_))))))
      exact ⟨⟨j + 1, cs ++ [is[j].raw kv25 iv25], us ++ is[j].vals kv25 iv25, .grp [o, .grp [ok25, oi25]]⟩, ⟨hlt, by rw [List.take_succ_eq_append_getElem hlt]; exact hK.snoc hV25⟩, by show is.length - (j + 1) < is.length - j; omega, Wk.re (.cons rfl lr (.cons rfl lr (.cons rfl lr (.cons rfl lr (.cons rfl lr .nil))))) ((Reown.dropN 1 _ rfl).trans (Reown.cons (Reown.cons (Reown.cons (Reown.cons (Reown.tri _ _ _ _)))))) (fun _ h => by first | exact h | simp [h])⟩
    have hge : is.length ≤ j := by simpa [V.css_length] using c1
    refine J.exit (thenQ.x (thenQ.x (blkQ.hit (thenQ.n (J.seq (J.reown (Reown.cons (Reown.cons (Reown.cons (Reown.grp2 _ _ _)))) (J.region_lit (Zq rfl (QW.load_box 1 ty29 (.tmp rfl) rfl rfl rfl) (JL.store_boxF 0 ty29 (.tmp rfl) rfl (.tmp rfl) rfl rfl rfl rfl ?_)))))))))
    refine Zn (J.ret ?_)
    obtain rfl : j = is.length := by omega
    rw [List.take_length] at hK
    exact Zr [.k, .k, .p, .p] (RetEv.one rfl (REv.cell 0 ty29 rfl rfl rfl rfl lr)) rfl ⟨_, rfl, _, _, _, _, rfl, rfl, hs7, hs10, keys_tr hk16, by rw [show cs ++ V.css fr (is.drop is.length) = cs by simp [V.css]]; exact hK.tr hi80⟩
theorem clone_ok {v : V} {ys : List AV} {fr : Bool} (hv : Vc fr v ys) (hw : v.wf) : AC Tryz.prog 32 [] [.agg ys] (RetR (CopyR v)) := clone_n _ hv hw (Nat.le_refl _)
theorem clone_rd {v : V} {ys : List AV} {fr : Bool} (hv : Vc fr v ys) (hw : v.wf) : Fn Tryz.prog 32 [.agg ys] (.agg (v.cs true)) := .ofCopy (clone_ok hv hw)
end Go.Proofs.YtjhonjdhanlbkaaGreat.J

/- Walks: a value that is spoilt. -/
namespace Go.Proofs.YtjhonjdhanlbkaaGreat.J
open Go Go.RowKit
set_option maxRecDepth 10000
set_option maxHeartbeats 4000000
theorem spoil_n  : ∀ (n : Nat) {v : V} {kv iv : Value} {ok oi : Own}, VTr v kv iv ok oi → v.wf → v.sz ≤ n → AC Tryz.prog 21 [ok, oi] [.agg (v.raw kv iv)] (RetR fun x o => x = .tup [] ∧ o = []) := by
  intro n
  induction n with
  | zero => intro v kv iv ok oi hV hw h; exact absurd h (by have := V.sz_pos v; omega)
  | succ n ih =>
    intro v kv iv ok oi hV hw hn
    obtain ⟨k, b, t, ks, is⟩ := v
    obtain ⟨-, -, -, hk16, hi80, -, hwi⟩ := hw.inv
    have hkl : ks.length ≤ 9223372036854775806 := by unfold reach at hk16; omega
    have hil : is.length ≤ 9223372036854775806 := by unfold reach at hi80; omega
    obtain ⟨ck, uk, o1, p1, p2, p3, p4, p5, p6⟩ := hV.ks.inv
    obtain ⟨ci, ui, o2, q1, q2, q3, q4, q5, q6⟩ := hV.is.inv
    simp only [V.keys, V.items, keysAV_length, V.css_length] at p2 q2 q5
    refine AC.of_J Tryz.func21 rfl Tryz.ntmps21 rfl fun w0 A0 => ?_
    refine Zs (JL.box_agg (.tmp rfl) rfl fun b1 => Zn (J.seq (J.seq (J.reown (Reown.cons (Reown.spoil p6 q6)) (J.region_lit (Zq rfl (QW.assign .const) (Zn (J.block ?_))))))))
    refine J.loopK (ι := Nat × List (List AV)) [1] (fun ⟨j, ck2⟩ => [(2, .c (.int .i64 (j : Int)))]) (fun ⟨j, ck2⟩ oo => List.set oo 1 (.arr kv eStr ck2)) (fun ⟨j, ck2⟩ => ck2.length = ck.length ∧ (∀ x ∈ ck2, x.length = 1)) (fun ⟨j, ck2⟩ => ck2.length - j) ⟨0, ck⟩ (⟨rfl, p3⟩) (Wk.re (.cons rfl lr (.cons rfl lr .nil)) (Reown.refl _) (fun _ h => by first | exact h | simp [h])) ?_
    intro ⟨j, ck2⟩ ⟨hcl, hc1⟩
    refine J.conv (by (try simp only [nl, stepsO, valO, nthO, curO, mrg, AV.cellsOf, splice_zero, splice_succ, Nat.reduceAdd]); rfl) ?_
    refine J.seq (Zs (Zq rfl (QW.move (.tmp rfl)) (Zq rfl (QW.field_ptr fo29_3 (.tmp rfl) rfl) (Zq rfl (QW.load_box1 0 ty26 (.tmp rfl) rfl rfl) (Zq rfl (QW.len_arr 1 sl26 (.tmp rfl) rfl) (Zq rfl (QW.lss (.tmp rfl) (.tmp rfl)) (Zn ?_)))))))
    refine J.cond (.tmp rfl) (fun c1 => ?_) (fun c1 => ?_)
    · skip
      have hlt : j < ck2.length := by simpa using c1
      refine Zk (J.seq (J.block (J.region_lit (Zq rfl (QW.field_ptr fo29_3 (.tmp rfl) rfl) (Zq rfl (QW.load_box1 0 ty26 (.tmp rfl) rfl rfl) (Zq rfl (QW.move (.tmp rfl)) (Zq rfl (QW.index_arr 1 sl26 ty9 rfl (.tmp rfl) rfl (.tmp rfl) rfl (by exact hlt) rfl) ?_)))))))
      refine JL.store_gp 1 ty9 (.tmp rfl) rfl (List.getElem?_eq_getElem hlt) rfl .const rfl rfl rfl (congrArg (List.set _ _) (splice_all (by rw [hc1 _ (List.getElem_mem hlt)]; rfl))) rfl ?_
      refine JL.nil (blkQ.n (thenQ.n (J.region_lit (Zq rfl (QW.move (.tmp rfl)) (Zq rfl (QW.add (.tmp rfl) .const (w64 (by omega))) (Zq rfl (QW.assign (.tmp rfl)) (Zn ?_)))))))
      exact ⟨⟨j + 1, ck2.set j [.c (str [115, 112, 111, 105, 108, 116])]⟩, ⟨by simp [hcl], fun x hx => (List.mem_or_eq_of_mem_set hx).elim (hc1 x) (fun h => by rw [h]; rfl)⟩, by simp; omega, Wk.re (.cons rfl lr (.cons rfl lr .nil)) (Reown.refl _) (fun _ h => by first | exact h | simp [h])⟩
    skip
    refine J.exit (thenQ.x (thenQ.x (blkQ.hit (thenQ.n (Zs (Zq rfl (QW.assign .const) (Zn (J.block (J.loopK (ι := Nat × List (List AV) × List Value × Own) [1] (fun ⟨j, ci2, us, o⟩ => [(3, .c (.int .i64 (j : Int)))]) (fun ⟨j, ci2, us, o⟩ oo => List.set (List.set oo 2 (.arr iv eV ci2)) 3 (o)) (fun ⟨j, ci2, us, o⟩ => ci2.length = is.length ∧ (∀ x ∈ ci2, x.length = 5) ∧ (ci2.drop j).flatten = us.map AV.c ∧ us.all (·.oneCell') = true ∧ TrL (V.css true (is.drop j)).flatten us o) (fun ⟨j, ci2, us, o⟩ => is.length - j) ⟨0, ci, ui, o2⟩ (⟨q2, q3, q1, q4, q5⟩) (Wk.re (.cons rfl lr (.cons rfl lr .nil)) (Reown.refl _) (fun _ h => by first | exact h | simp [h])) ?_)))))))))
    intro ⟨j, ci2, us, o⟩ ⟨hcl, hc5, hcf, hu1, hT⟩
    refine J.conv (by (try simp only [nl, stepsO, valO, nthO, curO, mrg, AV.cellsOf, splice_zero, splice_succ, Nat.reduceAdd]); rfl) ?_
    refine J.seq (Zs (Zq rfl (QW.move (.tmp rfl)) (Zq rfl (QW.field_ptr fo29_4 (.tmp rfl) rfl) (Zq rfl (QW.load_box1 0 ty27 (.tmp rfl) rfl rfl) (Zq rfl (QW.len_arr 2 sl27 (.tmp rfl) rfl) (Zq rfl (QW.lss (.tmp rfl) (.tmp rfl)) (Zn ?_)))))))
    refine J.cond (.tmp rfl) (fun c2 => ?_) (fun c2 => ?_)
    · skip
      have hlt : j < is.length := by (simp at c2; omega)
      refine Zk (J.seq (J.block (J.seq ?_)))
      obtain ⟨kv2, iv2, ok2, oi2, us2, o2, g1, hV2, g3, g4, g5, g6⟩ := kids_take hlt hcl hc5 hcf hu1 hT
      refine J.reown (Reown.cons (Reown.cons (Reown.cons g6))) (J.region_lit (Zq rfl (QW.field_ptr fo29_4 (.tmp rfl) rfl) (Zq rfl (QW.load_box1 0 ty27 (.tmp rfl) rfl rfl) (Zq rfl (QW.move (.tmp rfl)) (Zq rfl (QW.index_arr 2 sl27 ty29 rfl (.tmp rfl) rfl (.tmp rfl) rfl (by omega) rfl) (Zq rfl (QW.load_gp (o := 0) 2 ty29 (.tmp rfl) rfl (by exact g1) rfl rfl rfl) ?_))))))
      refine JL.callRF [.k, .k, .k, .p, .p] gofn21 rfl Lent.nil (fun _ => (.cons (.tmp rfl) .nil)) (ih hV2 (hwi _ (List.getElem_mem _)) (V.sz_get hn hlt)) (.inl rfl) fun x27 o27 h27 => ?_
      obtain ⟨rfl, rfl⟩ := h27
      refine Zn (J.region_lit (Zq rfl (QW.field_ptr fo29_4 (.tmp rfl) rfl) (Zq rfl (QW.load_box1 0 ty27 (.tmp rfl) rfl rfl) (Zq rfl (QW.move (.tmp rfl)) (Zq rfl (QW.build (idx := [0]) pl29 z29 rfl (.cons .const .nil) rfl rfl rfl rfl) (Zq rfl (QW.index_arr 2 sl27 ty29 rfl (.tmp rfl) rfl (.tmp rfl) rfl (by omega) rfl) (JL.store_gp 2 ty29 (.tmp rfl) rfl g1 rfl (.tmp rfl) rfl rfl rfl (congrArg (List.set _ _) (splice_all rfl)) rfl (JL.nil (blkQ.n ?_)))))))))
      refine thenQ.n (J.region_lit (Zq rfl (QW.move (.tmp rfl)) (Zq rfl (QW.add (.tmp rfl) .const (w64 (by omega))) (Zq rfl (QW.assign (.tmp rfl)) (Zn ?_)))))
      exact ⟨⟨j + 1, ci2.set j [.c (.int .i64 (-1)), .c (.int .u64 0), .c (str []), .c (.slice none 0 0), .c (.slice none 0 0)], us2, o2⟩, ⟨by simp [hcl], fun x hx => (List.mem_or_eq_of_mem_set hx).elim (hc5 x) (fun h => by rw [h]; rfl), by rw [List.drop_set_of_lt (by omega)]; exact g3, g4, g5⟩, by simp; omega, Wk.re (.cons rfl lr (.cons rfl lr .nil)) (Reown.refl _) (fun _ h => by first | exact h | simp [h])⟩
    skip
    exact J.exit (thenQ.x (thenQ.x (blkQ.hit (Zr [.k, .k, .k, .k] (RetEv.none rfl ) rfl ⟨_, rfl, rfl, rfl⟩))))
theorem spoil_ok {v : V} {kv iv : Value} {ok oi : Own} (hV : VTr v kv iv ok oi) (hw : v.wf) : AC Tryz.prog 21 [ok, oi] [.agg (v.raw kv iv)] (RetR fun x o => x = .tup [] ∧ o = []) := spoil_n _ hV hw (Nat.le_refl _)
end Go.Proofs.YtjhonjdhanlbkaaGreat.J

/- Steps into values: what is found, got and set, as plain data. -/
namespace Go.Proofs.YtjhonjdhanlbkaaGreat.J
open Go Go.RowKit
structure StT where
  isKey : Bool
  key : Str
  index : Int
  deriving DecidableEq
def eSt : ETy := ⟨3, 32⟩
def StT.cs (s : StT) : List AV := [.c (.bool s.isKey), .c (str s.key), .c (.int .i64 s.index)]
def StT.css (l : List StT) : List (List AV) := l.map StT.cs
theorem StT.css_length (l : List StT) : (StT.css l).length = l.length := by simp [StT.css]
theorem StT.css_getE {l : List StT} {i : Nat} (h : i < l.length) : (StT.css l)[i]? = some l[i].cs := by simp [StT.css, h]
structure StT.wf (s : StT) : Prop where
  k : s.key.length ≤ reach
  i : -9223372036854775808 ≤ s.index ∧ s.index ≤ 9223372036854775807
def Sc (s : StT) (ys : List AV) : Prop := ys = s.cs
theorem Sc.self {s : StT} : Sc s s.cs := rfl
/-! ### texts in order -/
theorem less_irr : ∀ a : Str, Op.bytesLess a a = false
  | [] => rfl
  | x :: a => by simp [Op.bytesLess, less_irr a]
theorem less_trans : ∀ {a b c : Str}, Op.bytesLess a b = true → Op.bytesLess b c = true → Op.bytesLess a c = true
  | a, [], _, h, _ => by cases a <;> simp [Op.bytesLess] at h
  | [], y :: b, z :: c, _, _ => rfl
  | _, y :: b, [], _, h => by simp [Op.bytesLess] at h
  | x :: a, y :: b, z :: c, h, k => by
    simp only [Op.bytesLess, Bool.or_eq_true, decide_eq_true_eq, Bool.and_eq_true, beq_iff_eq, UInt8.lt_iff_toNat_lt] at h k ⊢
    rcases h with h | ⟨rfl, h⟩
    · rcases k with k | ⟨rfl, k⟩
      · exact .inl (by omega)
      · exact .inl h
    · rcases k with k | ⟨rfl, k⟩
      · exact .inl k
      · exact .inr ⟨rfl, less_trans h k⟩
theorem less_tri (a b : Str) : Op.bytesLess a b = true ∨ a = b ∨ Op.bytesLess b a = true := by
  have := bytesLess_tri a b
  cases h : Op.bytesLess b a with
  | true => exact .inr (.inr rfl)
  | false =>
    rw [h] at this
    simp only [Bool.not_false, Bool.or_eq_true, beq_iff_eq] at this
    exact this.elim .inl fun h => .inr (.inl h)
theorem less_asym {a b : Str} (h : Op.bytesLess a b = true) : Op.bytesLess b a = false := by
  cases k : Op.bytesLess b a with
  | false => rfl
  | true => have := less_trans h k; rw [less_irr] at this; cases this
def Sorted (l : List Str) : Prop := List.Pairwise (fun a b => Op.bytesLess a b = true) l
theorem keysOk_sorted {l : List Str} (h : keysOk l = true) : Sorted l := by
  have hk : ∀ j, j < l.length → keyAt l j = true := fun j hj => List.all_eq_true.1 h j (by simpa using hj)
  rw [Sorted, List.pairwise_iff_getElem]
  intro i j hi hj hij
  induction j with
  | zero => omega
  | succ j ih =>
    have h1 := hk (j + 1) hj
    simp only [keyAt, Bool.and_eq_true, Bool.or_eq_true, beq_iff_eq, Nat.add_sub_cancel] at h1
    have h2 : Op.bytesLess l[j] l[j + 1] = true := by
      have := h1.2.resolve_left (by omega)
      simpa [List.getD, hj, show j < l.length by omega] using this
    by_cases he : i = j
    · subst he; exact h2
    · exact less_trans (ih (by omega) (by omega)) h2
def low : List Str → Str → Nat
  | [], _ => 0
  | k :: r, s => if Op.bytesLess k s then low r s + 1 else 0
theorem low_le : ∀ (l : List Str) (s : Str), low l s ≤ l.length
  | [], _ => Nat.le_refl _
  | k :: r, s => by
    have := low_le r s
    unfold low
    split
    · simp; exact this
    · exact Nat.zero_le _
theorem low_lt : ∀ {l : List Str} {s : Str} {i : Nat} (h : i < l.length), i < low l s → Op.bytesLess l[i] s = true
  | k :: r, s, i, h, hi => by
    unfold low at hi
    split at hi
    · rename_i hk
      cases i with
      | zero => exact hk
      | succ i => exact low_lt (l := r) (by simpa using h) (by omega)
    · omega
theorem low_at : ∀ {l : List Str} {s : Str} (h : low l s < l.length), Op.bytesLess l[low l s] s = false
  | k :: r, s, h => by
    by_cases hk : Op.bytesLess k s = true
    · have e : low (k :: r) s = low r s + 1 := by rw [low, if_pos hk]
      simp only [e, List.getElem_cons_succ]
      exact low_at (by rw [e] at h; simpa using h)
    · have e : low (k :: r) s = 0 := by rw [low, if_neg hk]
      simp only [e, List.getElem_cons_zero]
      simpa using hk
theorem low_ge {l : List Str} {s : Str} (hs : Sorted l) {i : Nat} (h : i < l.length) (hi : low l s ≤ i) : Op.bytesLess l[i] s = false := by
  have h0 := low_at (l := l) (s := s) (by omega)
  by_cases he : low l s = i
  · simp only [he] at h0; exact h0
  · cases hc : Op.bytesLess l[i] s with
    | false => rfl
    | true =>
      have := (List.pairwise_iff_getElem.1 hs) (low l s) i (by omega) h (by omega)
      rw [less_trans this hc] at h0
      cases h0
theorem low_eq {l : List Str} {s : Str} (hs : Sorted l) {i : Nat} (h : i < l.length) (he : l[i] = s) : low l s = i := by
  rcases Nat.lt_trichotomy (low l s) i with h1 | h1 | h1
  · have h2 := (List.pairwise_iff_getElem.1 hs) (low l s) i (by omega) h h1
    have h3 := low_at (l := l) (s := s) (by omega)
    rw [he] at h2
    rw [h2] at h3
    cases h3
  · exact h1
  · have := low_lt h h1
    rw [he, less_irr] at this
    cases this
/-! ### values that may be -/
inductive V.Fine : V → Prop
  | mk {v : V} (h : partOk v = true) (hs : ∀ x ∈ v.items, V.Fine x) : V.Fine v
theorem V.Fine.part {v : V} (h : v.Fine) : partOk v = true := by cases h; assumption
theorem V.Fine.kid {v : V} (h : v.Fine) {x : V} (hx : x ∈ v.items) : x.Fine := by cases h with | mk _ h => exact h x hx
mutual
theorem V.fine_chk : ∀ (v : V) (lev n : Int), (v.chk lev n).1 = 0 → v.Fine
  | .mk k b t ks is, lev, n, h => by
    unfold V.chk at h
    split at h
    · simp at h
    · split at h
      · simp at h
      · split at h
        · simp at h
        · rename_i hp
          exact .mk (by simpa using hp) (V.fine_chks is lev (n + 1) h)
theorem V.fine_chks : ∀ (l : List V) (lev n : Int), (V.chks l lev n).1 = 0 → ∀ x ∈ l, x.Fine
  | [], _, _, _ => fun _ h => by cases h
  | y :: r, lev, n, h => fun x hx => by
    unfold V.chks at h
    split at h
    · rename_i h'; exact absurd h h'
    · rename_i h'
      rcases List.mem_cons.1 hx with e | hx
      · rw [e]; exact V.fine_chk y (lev + 1) n (by simpa using h')
      · exact V.fine_chks r lev _ h x hx
end
theorem V.fine_of {v : V} (h : v.err = 0) : v.Fine := V.fine_chk v 1 0 h
theorem partOk_rec {v : V} (h : partOk v = true) (hk : v.kind = 5) : v.keys.length = v.items.length ∧ keysOk v.keys = true := by
  obtain ⟨k, b, t, ks, is⟩ := v
  simp only [V.kind] at hk
  subst hk
  simp [partOk] at h
  exact ⟨h.1.2, h.2⟩
theorem partOk_len {v : V} (h : partOk v = true) : v.items.length ≤ 32 ∧ v.keys.length ≤ 32 := by
  obtain ⟨k, b, t, ks, is⟩ := v
  unfold partOk at h
  simp only [V.items, V.keys]
  repeat' split at h
  all_goals (simp at h; try grind)
theorem V.Fine.sorted {v : V} (h : v.Fine) (hk : v.kind = 5) : Sorted v.keys := keysOk_sorted (partOk_rec h.part hk).2
/-! ### steps -/
def V.fnd (v : V) (s : StT) : Nat × Int :=
  if s.isKey = true then (if v.kind = 5 then (low v.keys s.key, if v.keys[low v.keys s.key]? = some s.key then 0 else 71) else (0, 81))
  else if v.kind = 4 then (if s.index < 0 ∨ (v.items.length : Int) ≤ s.index then (0, 82) else (s.index.toNat, 0)) else (0, 81)
theorem V.fnd_lt {v : V} {s : StT} (hv : partOk v = true) (h : (v.fnd s).2 = 0) : (v.fnd s).1 < v.items.length := by
  unfold V.fnd at h ⊢
  split
  · rename_i h1
    rw [if_pos h1] at h
    split
    · rename_i h2
      rw [if_pos h2] at h
      simp only at h ⊢
      split at h
      · rename_i h3
        rw [← (partOk_rec hv h2).1]
        exact (List.getElem?_eq_some_iff.1 h3).1
      · simp at h
    · rename_i h2
      rw [if_neg h2] at h
      simp at h
  · rename_i h1
    rw [if_neg h1] at h
    split
    · rename_i h2
      rw [if_pos h2] at h
      split
      · rename_i h3
        rw [if_pos h3] at h
        simp at h
      · simp only; omega
    · rename_i h2
      rw [if_neg h2] at h
      simp at h
def V.kid (v : V) (i : Nat) : V := v.items.getD i .nil
def V.setAt (v : V) (i : Nat) (x : V) : V := .mk v.kind v.bits v.text v.keys (v.items.set i x)
def V.ins (v : V) (s : StT) (i : Nat) (x : V) : V := .mk v.kind v.bits v.text (if s.isKey = true then v.keys.take i ++ [s.key] ++ v.keys.drop i else v.keys) (v.items.take i ++ [x] ++ v.items.drop i)
def V.grw (v : V) (s : StT) (i : Nat) (e : Int) : Nat × Int :=
  if e = 71 ∧ keyOk s.key = false then (0, 31) else if e = 82 ∧ s.index = v.items.length then (if 32 ≤ v.items.length then (0, 3) else (v.items.length, 0)) else if e ≠ 71 then (0, e) else if 32 ≤ v.items.length then (0, 3) else (i, 0)
def V.put (v : V) (s : StT) (x : V) : V × Int :=
  if (v.fnd s).2 = 0 then (v.setAt (v.fnd s).1 x, 0) else if (v.grw s (v.fnd s).1 (v.fnd s).2).2 = 0 then (v.ins s (v.grw s (v.fnd s).1 (v.fnd s).2).1 x, 0) else (.nil, (v.grw s (v.fnd s).1 (v.fnd s).2).2)
def V.set : V → List StT → V → V × Int
  | _, [], x => (x, 0)
  | v, [s], x => v.put s x
  | v, s :: t :: r, x => if (v.fnd s).2 ≠ 0 then (.nil, (v.fnd s).2) else if (V.set (v.kid (v.fnd s).1) (t :: r) x).2 ≠ 0 then (.nil, (V.set (v.kid (v.fnd s).1) (t :: r) x).2) else (v.setAt (v.fnd s).1 (V.set (v.kid (v.fnd s).1) (t :: r) x).1, 0)
def V.setv (v : V) (p : List StT) (x : V) : V × Int :=
  if v.err ≠ 0 then (.nil, v.err) else if x.err ≠ 0 then (.nil, x.err) else if (v.set p x).2 ≠ 0 then (.nil, (v.set p x).2) else if (v.set p x).1.err ≠ 0 then (.nil, (v.set p x).1.err) else ((v.set p x).1, 0)
def V.walk : V → List StT → V × Int
  | v, [] => (v, 0)
  | v, s :: r => if (v.fnd s).2 ≠ 0 then (.nil, (v.fnd s).2) else V.walk (v.kid (v.fnd s).1) r
def V.getv (v : V) (p : List StT) : V × Int := if v.err ≠ 0 then (.nil, v.err) else v.walk p
theorem V.kid_mem {v : V} {i : Nat} (h : i < v.items.length) : v.kid i ∈ v.items := by
  unfold V.kid; simp [List.getD, h]
theorem V.kid_eq {v : V} {i : Nat} (h : i < v.items.length) : v.kid i = v.items[i] := by
  unfold V.kid; simp [List.getD, h]
theorem V.wf.kid {v : V} (h : v.wf) {x : V} (hx : x ∈ v.items) : x.wf := by obtain ⟨k, b, t, ks, is⟩ := v; exact h.inv.2.2.2.2.2.2 x hx
theorem V.setAt_wf {v x : V} {i : Nat} (h : v.wf) (hx : x.wf) : (v.setAt i x).wf := by
  obtain ⟨k, b, t, ks, is⟩ := v
  obtain ⟨h1, h2, h3, h4, h5, h6, h7⟩ := h.inv
  exact .mk h1 h2 h3 h4 (by simpa [V.items] using h5) h6 fun y hy => (List.mem_or_eq_of_mem_set hy).elim (h7 y) fun e => e ▸ hx
theorem V.ins_wf {v x : V} {s : StT} {i : Nat} (h : v.wf) (hf : partOk v = true) (hs : s.wf) (hx : x.wf) : (v.ins s i x).wf := by
  obtain ⟨k, b, t, ks, is⟩ := v
  obtain ⟨h1, h2, h3, h4, h5, h6, h7⟩ := h.inv
  obtain ⟨l1, l2⟩ := partOk_len hf
  simp only [V.items, V.keys] at l1 l2
  refine .mk h1 h2 h3 ?_ ?_ ?_ ?_
  · simp only [V.keys]
    split
    · simp only [List.length_append, List.length_take, List.length_drop, List.length_singleton]; unfold reach; omega
    · exact h4
  · simp only [V.items, List.length_append, List.length_take, List.length_drop, List.length_singleton]; unfold reach; omega
  · simp only [V.keys]
    intro z hz
    split at hz
    · simp only [List.mem_append, List.mem_singleton] at hz
      rcases hz with (hz | rfl) | hz
      · exact h6 z (List.mem_of_mem_take hz)
      · exact hs.k
      · exact h6 z (List.mem_of_mem_drop hz)
    · exact h6 z hz
  · simp only [V.items]
    intro z hz
    simp only [List.mem_append, List.mem_singleton] at hz
    rcases hz with (hz | rfl) | hz
    · exact h7 z (List.mem_of_mem_take hz)
    · exact hx
    · exact h7 z (List.mem_of_mem_drop hz)
theorem V.put_wf {v x : V} {s : StT} (h : v.wf) (hf : partOk v = true) (hs : s.wf) (hx : x.wf) : (v.put s x).1.wf := by
  unfold V.put
  split
  · exact V.setAt_wf h hx
  · split
    · exact V.ins_wf h hf hs hx
    · exact V.wf_nil
theorem V.set_wf : ∀ {p : List StT} {v x : V}, v.wf → v.Fine → (∀ s ∈ p, s.wf) → x.wf → (v.set p x).1.wf
  | [], v, x, _, _, _, hx => hx
  | [s], v, x, h, hf, hs, hx => V.put_wf h hf.part (hs s (by simp)) hx
  | s :: t :: r, v, x, h, hf, hs, hx => by
    unfold V.set
    split
    · exact V.wf_nil
    · rename_i he
      have hlt := V.fnd_lt hf.part (by simpa using he)
      split
      · exact V.wf_nil
      · exact V.setAt_wf h (V.set_wf (h.kid (V.kid_mem hlt)) (hf.kid (V.kid_mem hlt)) (fun s hs' => hs s (List.mem_cons_of_mem _ hs')) hx)
theorem V.setv_wf {v x : V} {p : List StT} (h : v.wf) (hs : ∀ s ∈ p, s.wf) (hx : x.wf) : (v.setv p x).1.wf := by
  unfold V.setv
  split
  · exact V.wf_nil
  · rename_i he
    split
    · exact V.wf_nil
    · split
      · exact V.wf_nil
      · split
        · exact V.wf_nil
        · exact V.set_wf h (V.fine_of (by simpa using he)) hs hx
end Go.Proofs.YtjhonjdhanlbkaaGreat.J

/- The order of values, as plain data. -/
namespace Go.Proofs.YtjhonjdhanlbkaaGreat.J
open Go Go.RowKit
def cmpI (a b : Int) : Int := if a < b then -1 else if b < a then 1 else 0
def cmpS (a b : Str) : Int := if Op.bytesLess a b then -1 else if Op.bytesLess b a then 1 else 0
def orI (a b : Int) : Int := if a ≠ 0 then a else b
def cmpK : List Str → List Str → Int
  | [], [] => 0
  | [], _ :: _ => -1
  | _ :: _, [] => 1
  | x :: r, y :: s => orI (cmpS x y) (cmpK r s)
def V.numb (k : Int) (b : Nat) : Nat := if k = 2 then orderN b else b
mutual
def V.ord : V → V → Int
  | .mk k b t ks is, .mk k' b' t' ks' is' => orI (cmpI k k') (orI (cmpI (V.numb k b) (V.numb k b')) (orI (cmpS t t') (orI (cmpK ks ks') (V.ords is is'))))
def V.ords : List V → List V → Int
  | [], [] => 0
  | [], _ :: _ => -1
  | _ :: _, [] => 1
  | x :: r, y :: s => orI (x.ord y) (V.ords r s)
end
theorem cmpI_zero {a b : Int} : cmpI a b = 0 ↔ a = b := by unfold cmpI; (repeat' split) <;> omega
theorem cmpS_lt {a b : Str} : cmpS a b < 0 ↔ Op.bytesLess a b = true := by
  unfold cmpS
  cases h : Op.bytesLess a b <;> simp
  split <;> omega
theorem cmpS_gt {a b : Str} : 0 < cmpS a b ↔ Op.bytesLess b a = true := by
  unfold cmpS
  cases h : Op.bytesLess a b with
  | true => simp [less_asym h]
  | false => cases k : Op.bytesLess b a <;> simp
theorem cmpS_zero {a b : Str} : cmpS a b = 0 ↔ a = b := by
  constructor
  · intro h
    rcases less_tri a b with k | k | k
    · have := cmpS_lt.2 k; omega
    · exact k
    · have := cmpS_gt.2 k; omega
  · rintro rfl; unfold cmpS; simp [less_irr]
def V.cmp (a b : V) : Int × Int := if a.err ≠ 0 then (0, a.err) else if b.err ≠ 0 then (0, b.err) else (a.ord b, 0)
def V.one (a b : V) : Bool := (a.cmp b).1 == 0 && (a.cmp b).2 == 0
end Go.Proofs.YtjhonjdhanlbkaaGreat.J

/- Numbers: what can be written exactly is; the floor and what is cut off, as whole numbers. -/
namespace Go.Proofs.YtjhonjdhanlbkaaGreat.J
open Go Go.RowKit
theorem cut_exact (way : Ieee.Toward) (s : Bool) (k d : Nat) : way.cut s (k * 2 ^ d) d = k := by
  have hg : ∃ g, (1 <<< min d ((k * 2 ^ d).log2 + 2) = g) ∧ 0 < g ∧ (k * 2 ^ d) / g = k ∧ (k * 2 ^ d) % g = 0 := by
    refine ⟨_, rfl, ?_, ?_⟩
    · rw [Nat.shiftLeft_eq, Nat.one_mul]; exact Nat.two_pow_pos _
    · rw [Nat.shiftLeft_eq, Nat.one_mul]
      by_cases hk : k = 0
      · subst hk; simp
      · have hd : d ≤ (k * 2 ^ d).log2 := by
          rw [Nat.le_log2 (Nat.mul_ne_zero hk (Nat.ne_of_gt (Nat.two_pow_pos _)))]
          exact Nat.le_mul_of_pos_left _ (Nat.pos_of_ne_zero hk)
        rw [Nat.min_eq_left (by omega)]
        exact ⟨Nat.mul_div_cancel _ (Nat.two_pow_pos _), Nat.mul_mod_left _ _⟩
  obtain ⟨g, h1, h2, h3, h4⟩ := hg
  unfold Ieee.Toward.cut
  simp only [h1, h3, h4]
  cases way <;> simp <;> omega
theorem cut_zero (way : Ieee.Toward) (s : Bool) (k : Nat) : way.cut s k 0 = k := by
  have := cut_exact way s k 0
  rwa [Nat.pow_zero, Nat.mul_one] at this
theorem magn_zero : magn 0 = 0 := by decide
theorem magn_eq0 {r : Nat} (h : magn r = 0) : r = 0 := magn_inj.2.1 (h.trans magn_zero.symm)
theorem log_bounds {m i V : Nat} (hm : m ≠ 0) (h : m * 2 ^ i = V) : 2 ^ (m.log2 + i) ≤ V ∧ V < 2 ^ (m.log2 + i + 1) := by
  have h1 : 2 ^ m.log2 ≤ m := (Nat.le_log2 hm).1 (Nat.le_refl _)
  have h2 : m < 2 ^ (m.log2 + 1) := (Nat.log2_lt hm).1 (by omega)
  subst h
  rw [Nat.pow_add, show m.log2 + i + 1 = (m.log2 + 1) + i by omega, Nat.pow_add 2 (m.log2 + 1)]
  exact ⟨Nat.mul_le_mul_right _ h1, Nat.mul_lt_mul_of_pos_right h2 (Nat.two_pow_pos _)⟩
theorem pow_lt {a b : Nat} (h : 2 ^ a < 2 ^ b) : a < b := (Nat.pow_lt_pow_iff_right (by decide)).1 h
theorem mul_pow_sub {m i a q : Nat} (h : m * 2 ^ i = q * 2 ^ a) (ha : a ≤ i) : m * 2 ^ (i - a) = q := by
  have : m * 2 ^ (i - a) * 2 ^ a = q * 2 ^ a := by rw [Nat.mul_assoc, ← Nat.pow_add, Nat.sub_add_cancel ha, h]
  exact Nat.eq_of_mul_eq_mul_right (Nat.two_pow_pos _) this
theorem nearest_at {s : Bool} {m : Nat} {i : Nat} (hm : m ≠ 0) (a : Nat) (ha : (a : Int) = max ((m.log2 : Int) + i - 52) 0) :
    Ieee.double.nearest s m (leastP + i) = Ieee.double.word s (min (a * 2 ^ 52 + Ieee.Toward.even.cut s (m * 2 ^ (i - a)) (a - i)) infR) := by
  unfold Ieee.Format.nearest
  rw [if_neg hm]
  have hl : max (leastP + (i : Int) + (m.log2 : Int) - ((Ieee.double.fractionBits : Nat) : Int)) Ieee.double.leastPlace = leastP + (a : Int) := by
    have e : Ieee.double.leastPlace = leastP := by decide
    have e2 : ((Ieee.double.fractionBits : Nat) : Int) = 52 := by decide
    rw [e, e2, ha]
    omega
  simp only [hl]
  have e3 : Ieee.double.leastPlace = leastP := by decide
  rw [e3, show (leastP + (i : Int) - (leastP + (a : Int))).toNat = i - a by omega, show (leastP + (a : Int) - (leastP + (i : Int))).toNat = a - i by omega, show (leastP + (a : Int) - leastP).toNat = a by omega, Nat.shiftLeft_eq]
  rfl
theorem nearest_exact {s : Bool} {m r : Nat} (i : Nat) (h : m * 2 ^ i = magn r) (hf : r < infR) : Ieee.double.nearest s m (leastP + i) = Ieee.double.word s r := by
  by_cases hm : m = 0
  · subst hm
    rw [Nat.zero_mul] at h
    rw [magn_eq0 h.symm]
    simp [Ieee.Format.nearest]
  · have hb := log_bounds hm h
    by_cases h1 : r < 2 ^ 52
    · have hv : magn r = r := by simp [magn, h1]
      rw [hv] at h hb
      have : m.log2 + i < 52 := pow_lt (Nat.lt_of_le_of_lt hb.1 h1)
      rw [nearest_at hm 0 (by omega), Nat.sub_zero, Nat.zero_sub, cut_zero, h, Nat.zero_mul, Nat.zero_add, Nat.min_eq_left (Nat.le_of_lt hf)]
    · obtain ⟨a, f, hr, hff, hv⟩ : ∃ a f, r = (a + 1) * 2 ^ 52 + f ∧ f < 2 ^ 52 ∧ magn r = (2 ^ 52 + f) * 2 ^ a :=
        ⟨r / 2 ^ 52 - 1, r % 2 ^ 52, by omega, Nat.mod_lt _ (by decide), by simp [magn, h1]⟩
      rw [hv] at h hb
      have hp := Nat.two_pow_pos a
      have e1 : 2 ^ (m.log2 + i) < 2 ^ (53 + a) := by
        refine Nat.lt_of_le_of_lt hb.1 ?_
        rw [Nat.pow_add]
        exact Nat.mul_lt_mul_of_pos_right (by omega) hp
      have e2 : 2 ^ (52 + a) < 2 ^ (m.log2 + i + 1) := by
        refine Nat.lt_of_le_of_lt ?_ hb.2
        rw [Nat.pow_add]
        exact Nat.mul_le_mul_right _ (by omega)
      have e3 := pow_lt e1
      have e4 := pow_lt e2
      have hk : Ieee.Toward.even.cut s (m * 2 ^ (i - a)) (a - i) = 2 ^ 52 + f := by
        by_cases hia : a ≤ i
        · rw [show a - i = 0 by omega, cut_zero, mul_pow_sub h hia]
        · rw [show i - a = 0 by omega, Nat.pow_zero, Nat.mul_one, ← mul_pow_sub h.symm (by omega), cut_exact]
      rw [nearest_at hm a (by omega), hk, show a * 2 ^ 52 + (2 ^ 52 + f) = r by omega, Nat.min_eq_left (Nat.le_of_lt hf)]
def uP : Nat := 1074
theorem uP_eq : uP = 1074 := rfl
def unitV : Nat := 2 ^ uP
theorem unit_eq : unitV = 2 ^ uP := rfl
def oneR : Nat := 1023 * 2 ^ 52
theorem two_pow_split (c u : Nat) (h : u = 52 + c) : 2 ^ 52 * 2 ^ c = 2 ^ u := by subst h; exact (Nat.pow_add 2 52 c).symm
theorem magn_one : magn oneR = unitV := by
  rw [show oneR = 1023 * 2 ^ 52 from rfl]
  unfold magn
  rw [if_neg (by omega), show 1023 * 2 ^ 52 % 2 ^ 52 = 0 by omega, show 1023 * 2 ^ 52 / 2 ^ 52 - 1 = 1022 by omega, Nat.add_zero, unit_eq]
  exact two_pow_split 1022 uP rfl
theorem sgn_eq {b : Nat} (h : b < 2 ^ 64) : sgn b = decide (2 ^ 63 ≤ b) := by
  unfold sgn
  by_cases h1 : 2 ^ 63 ≤ b
  · rw [show b / 2 ^ 63 = 1 by omega]; simp; omega
  · rw [show b / 2 ^ 63 = 0 by omega]; simp; omega
theorem word_self {b : Nat} (h : b < 2 ^ 64) : Ieee.double.word (sgn b) (rung b) = b := by
  have hw : ∀ s r, Ieee.double.word s r = if s then 2 ^ 63 + r else r := fun s r => rfl
  rw [hw, sgn_eq h]
  unfold rung
  by_cases h1 : 2 ^ 63 ≤ b
  · simp only [h1, decide_true, if_true]; omega
  · simp only [h1, decide_false, if_false, Bool.false_eq_true]; omega
theorem whole_rung {k : Nat} (h : k ≤ 2 ^ 53) : ∃ r, r < infR ∧ magn r = k * unitV ∧ r ≤ 1076 * 2 ^ 52 := by
  have hu := unit_eq
  by_cases h0 : k = 0
  · exact ⟨0, by decide, by rw [h0, Nat.zero_mul]; exact magn_zero, by decide⟩
  by_cases h1 : k = 2 ^ 53
  · refine ⟨1076 * 2 ^ 52, by decide, ?_, Nat.le_refl _⟩
    unfold magn
    rw [if_neg (by omega), show 1076 * 2 ^ 52 % 2 ^ 52 = 0 by omega, show 1076 * 2 ^ 52 / 2 ^ 52 - 1 = 1 + uP by have := uP_eq; omega, Nat.add_zero, h1, hu, Nat.pow_add, ← Nat.mul_assoc]
  · have hl : k.log2 < 53 := (Nat.log2_lt h0).2 (by omega)
    have a1 : 2 ^ k.log2 ≤ k := (Nat.le_log2 h0).1 (Nat.le_refl _)
    have a2 : k < 2 ^ (k.log2 + 1) := (Nat.log2_lt h0).1 (by omega)
    have b1 : 2 ^ 52 ≤ k * 2 ^ (52 - k.log2) := by
      have := Nat.mul_le_mul_right (2 ^ (52 - k.log2)) a1
      rwa [← Nat.pow_add, Nat.add_sub_cancel' (show k.log2 ≤ 52 by omega)] at this
    have b2 : k * 2 ^ (52 - k.log2) < 2 ^ 53 := by
      have := Nat.mul_lt_mul_of_pos_right a2 (Nat.two_pow_pos (52 - k.log2))
      rwa [← Nat.pow_add, show k.log2 + 1 + (52 - k.log2) = 53 by omega] at this
    refine ⟨(k.log2 + 1023) * 2 ^ 52 + (k * 2 ^ (52 - k.log2) - 2 ^ 52), ?_, ?_, by omega⟩
    · unfold infR; omega
    · unfold magn
      rw [if_neg (by omega), show ((k.log2 + 1023) * 2 ^ 52 + (k * 2 ^ (52 - k.log2) - 2 ^ 52)) % 2 ^ 52 = k * 2 ^ (52 - k.log2) - 2 ^ 52 by omega,
        show ((k.log2 + 1023) * 2 ^ 52 + (k * 2 ^ (52 - k.log2) - 2 ^ 52)) / 2 ^ 52 - 1 = k.log2 + 1022 by omega, Nat.add_sub_cancel' b1, Nat.mul_assoc, ← Nat.pow_add, hu]
      have e : 52 - k.log2 + (k.log2 + 1022) = uP := by rw [uP_eq]; omega
      rw [e]
theorem unit_pos : 0 < unitV := by rw [unit_eq]; exact Nat.two_pow_pos _
theorem magn_part {r : Nat} (h : magn r % unitV ≠ 0) : magn r < 2 ^ 52 * unitV := by
  have hu := unit_eq
  unfold magn at *
  split at h
  · rename_i h1
    rw [if_pos h1]
    exact Nat.lt_of_lt_of_le h1 (Nat.le_mul_of_pos_right _ unit_pos)
  · rename_i h1
    rw [if_neg h1]
    have ha : r / 2 ^ 52 - 1 < uP := by
      apply Nat.lt_of_not_le
      intro hle
      apply h
      obtain ⟨c, hc⟩ := Nat.exists_eq_add_of_le hle
      rw [hc, Nat.pow_add, ← hu, Nat.mul_comm unitV, ← Nat.mul_assoc]
      exact Nat.mul_mod_left _ _
    have hf : r % 2 ^ 52 < 2 ^ 52 := Nat.mod_lt _ (by decide)
    obtain ⟨w, hw⟩ : ∃ w, uP = 1 + w := ⟨1073, rfl⟩
    calc (2 ^ 52 + r % 2 ^ 52) * 2 ^ (r / 2 ^ 52 - 1) ≤ (2 ^ 52 + r % 2 ^ 52) * 2 ^ w := Nat.mul_le_mul_left _ (Nat.pow_le_pow_right (by decide) (by omega))
      _ < (2 ^ 52 * 2 ^ 1) * 2 ^ w := Nat.mul_lt_mul_of_pos_right (by omega) (Nat.two_pow_pos _)
      _ = 2 ^ 52 * unitV := by rw [hu, hw, Nat.pow_add 2 1 w, Nat.mul_assoc]
def wholeK (way : Ieee.Toward) (s : Bool) (V : Nat) : Nat := V / unitV + (way == .down && s && V % unitV != 0).toNat
theorem integral_fin (way : Ieee.Toward) (hw : way = .down ∨ way = .zero) {s : Bool} {m a : Nat} :
    (Ieee.Datum.number s m (leastP + a)).integral way = .number s (wholeK way s (m * 2 ^ a)) (leastP + (uP : Nat)) := by
  show Ieee.Datum.number s (way.cut s (m <<< (leastP + (a : Int)).toNat) (-(leastP + (a : Int))).toNat) 0 = _
  have hp := uP_eq
  have e0 : leastP + ((uP : Nat) : Int) = 0 := by decide
  rw [e0]
  congr 1
  have hu := unit_eq
  rw [Nat.shiftLeft_eq]
  have hl : leastP = -1074 := rfl
  by_cases h : uP ≤ a
  · obtain ⟨c, rfl⟩ := Nat.exists_eq_add_of_le h
    rw [show (leastP + ((uP + c : Nat) : Int)).toNat = c by omega, show (-(leastP + ((uP + c : Nat) : Int))).toNat = 0 by omega, cut_zero]
    unfold wholeK
    have e : m * 2 ^ (uP + c) = m * 2 ^ c * unitV := by rw [Nat.pow_add, ← hu, Nat.mul_comm unitV, Nat.mul_assoc]
    rw [e, Nat.mul_div_cancel _ unit_pos, Nat.mul_mod_left]
    simp
  · rw [show (leastP + (a : Int)).toNat = 0 by omega, Nat.pow_zero, Nat.mul_one]
    obtain ⟨d, hd⟩ : ∃ d, (-(leastP + (a : Int))).toNat = d ∧ d + a = uP := ⟨_, rfl, by omega⟩
    rw [hd.1]
    have hU : unitV = 2 ^ d * 2 ^ a := by rw [← Nat.pow_add, hd.2, hu]
    have q1 : m * 2 ^ a / unitV = m / 2 ^ d := by rw [hU]; exact Nat.mul_div_mul_right _ _ (Nat.two_pow_pos _)
    have q2 : m * 2 ^ a % unitV = m % 2 ^ d * 2 ^ a := by rw [hU]; exact Nat.mul_mod_mul_right _ _ _
    have q3 : (m * 2 ^ a % unitV != 0) = (m % 2 ^ d != 0) := by
      rw [q2, Bool.eq_iff_iff]
      have := Nat.ne_of_gt (Nat.two_pow_pos a)
      simp only [bne_iff_ne, ne_eq, Nat.mul_eq_zero, this, or_false]
    unfold wholeK
    rw [q1, q3]
    unfold Ieee.Toward.cut
    have hg : ∃ g, 1 <<< min d (m.log2 + 2) = g ∧ m / g = m / 2 ^ d ∧ m % g = m % 2 ^ d := by
      refine ⟨_, rfl, ?_⟩
      rw [Nat.shiftLeft_eq, Nat.one_mul]
      by_cases hle : d ≤ m.log2 + 2
      · rw [Nat.min_eq_left hle]; exact ⟨rfl, rfl⟩
      · rw [Nat.min_eq_right (by omega)]
        have l1 : m < 2 ^ (m.log2 + 2) := by
          by_cases hm : m = 0
          · subst hm; exact Nat.two_pow_pos _
          · exact Nat.lt_trans ((Nat.log2_lt hm).1 (Nat.lt_succ_self _)) (Nat.pow_lt_pow_right (by decide) (by omega))
        have l2 : m < 2 ^ d := Nat.lt_of_lt_of_le l1 (Nat.pow_le_pow_right (by decide) (by omega))
        rw [Nat.div_eq_of_lt l1, Nat.div_eq_of_lt l2, Nat.mod_eq_of_lt l1, Nat.mod_eq_of_lt l2]
        exact ⟨rfl, rfl⟩
    obtain ⟨g, g1, g2, g3⟩ := hg
    simp only [g1, g2, g3]
    rcases hw with rfl | rfl
    · rfl
    · simp
theorem write_number {s : Bool} {k i r : Nat} (h : k * 2 ^ i = magn r) (hf : r < infR) : Ieee.double.write (.number s k (leastP + i)) = Ieee.double.word s r := nearest_exact i h hf
theorem integral_word (way : Ieee.Toward) (hw : way = .down ∨ way = .zero) {b : Nat} (hb : rung b < infR) :
    ∃ r, r < infR ∧ Ieee.double.write ((rdw b).integral way) = Ieee.double.word (sgn b) r ∧ magn r = wholeK way (sgn b) (magn (rung b)) * unitV := by
  obtain ⟨m, a, hd, hm⟩ := rdw_finite hb
  rw [hd, integral_fin way hw, hm]
  have key : ∃ r, r < infR ∧ magn r = wholeK way (sgn b) (magn (rung b)) * unitV := by
    by_cases hz : magn (rung b) % unitV = 0
    · refine ⟨rung b, hb, ?_⟩
      unfold wholeK
      rw [hz]
      have := Nat.div_add_mod (magn (rung b)) unitV
      rw [hz, Nat.add_zero, Nat.mul_comm] at this
      simp [this]
    · have h1 : magn (rung b) / unitV < 2 ^ 52 := (Nat.div_lt_iff_lt_mul unit_pos).2 (magn_part hz)
      have hb1 : ∀ b : Bool, b.toNat ≤ 1 := fun b => by cases b <;> decide
      have h2 : wholeK way (sgn b) (magn (rung b)) ≤ 2 ^ 53 := by unfold wholeK; have := hb1 (way == .down && sgn b && magn (rung b) % unitV != 0); omega
      obtain ⟨r, r1, r2, _⟩ := whole_rung h2
      exact ⟨r, r1, r2⟩
  obtain ⟨r, r1, r2⟩ := key
  exact ⟨r, r1, write_number (by rw [r2, unit_eq]) r1, r2⟩
end Go.Proofs.YtjhonjdhanlbkaaGreat.J

/- Numbers: the laws of the floor, of whole numbers there and back, and of the page's own answers. -/
namespace Go.Proofs.YtjhonjdhanlbkaaGreat.J
open Go Go.RowKit
def svF (s : Bool) (V : Nat) : Int := if s then -(V : Int) else V
theorem sum_fin (s t : Bool) (m k a c : Nat) : ∃ T : Int, (Ieee.Datum.number s m (leastP + a)).sum (.number t k (leastP + c)) = some (.number (if T = 0 then s && t else decide (T < 0)) T.natAbs (leastP + ((min a c : Nat) : Int))) ∧
    T * 2 ^ (min a c) = svF s (m * 2 ^ a) + svF t (k * 2 ^ c) := by
  have hb : min (leastP + (a : Int)) (leastP + c) = leastP + ((min a c : Nat) : Int) := by
    rcases Nat.le_total a c with h | h
    · rw [Nat.min_eq_left h, Int.min_eq_left (by omega)]
    · rw [Nat.min_eq_right h, Int.min_eq_right (by omega)]
  refine ⟨Ieee.signed s m (a - min a c) + Ieee.signed t k (c - min a c), ?_, ?_⟩
  · simp only [Ieee.Datum.sum, hb]
    rw [show (leastP + (a : Int) - (leastP + ((min a c : Nat) : Int))).toNat = a - min a c by omega, show (leastP + (c : Int) - (leastP + ((min a c : Nat) : Int))).toNat = c - min a c by omega]
  · rw [Int.add_mul, ← signed_scale s m a (min a c) (Nat.min_le_left _ _), ← signed_scale t k c (min a c) (Nat.min_le_right _ _), signed_magn' , signed_magn']
where
  signed_magn' {s : Bool} {m a : Nat} : Ieee.signed s m a = svF s (m * 2 ^ a) := by
    rw [signed_eq]; unfold svF
    cases s <;> simp [Int.neg_mul]
theorem natAbs_pow {T X : Int} {j : Nat} (h : T * 2 ^ j = X) : T.natAbs * 2 ^ j = X.natAbs := by
  rw [← h, Int.natAbs_mul, Int.natAbs_pow]; rfl
theorem floorC_fin {b : Nat} (hf : rung b < infR) : floorC b = floorN b := by
  unfold floorC
  rw [isNan_eq, decide_eq_false (by omega), if_neg (by decide)]
theorem word_parts {s : Bool} {r : Nat} (h : r < infR) : rung (Ieee.double.word s r) = r ∧ sgn (Ieee.double.word s r) = s ∧ Ieee.double.word s r < 2 ^ 64 := word_rung (Nat.lt_trans h infR_lt)
theorem floor_word {b : Nat} (hf : rung b < infR) : ∃ r, r < infR ∧ floorC b = Ieee.double.word (sgn b) r ∧ magn r = wholeK .down (sgn b) (magn (rung b)) * unitV := by
  rw [floorC_fin hf]; exact integral_word .down (.inl rfl) hf
theorem one_word : Ieee.double.word false oneR = 4607182418800017408 := by decide
theorem floor_inf {b : Nat} (hb : b < 2 ^ 64) (h : infR ≤ rung b) : floorC b = canonN b := by
  unfold floorC canonN
  cases hn : isNan b with
  | true => rfl
  | false =>
    simp only [Bool.false_eq_true, if_false]
    rw [isNan_eq] at hn; simp at hn
    have he : rung b = infR := by omega
    have hd : rdw b = .infinity (sgn b) := by rw [rdw_eq, if_neg (by unfold infR at he; omega), if_neg (by omega), if_pos he]
    unfold floorN
    rw [hd]
    show Ieee.double.word (sgn b) infR = b
    rw [← he, word_self hb]
end Go.Proofs.YtjhonjdhanlbkaaGreat.J

/- Numbers: whole numbers there and back, and the page's own floor. -/
namespace Go.Proofs.YtjhonjdhanlbkaaGreat.J
open Go Go.RowKit
def isWhole (b : Nat) : Prop := magn (rung b) % unitV = 0
instance (b : Nat) : Decidable (isWhole b) := inferInstanceAs (Decidable (_ = _))
def mostR : Nat := 1076 * 2 ^ 52
def intE (b : Nat) : Int := if infR ≤ rung b ∨ ¬ isWhole b then 7 else if mostR < rung b then 4 else 0
def intV (b : Nat) : Int := if infR ≤ rung b ∨ ¬ isWhole b ∨ mostR < rung b then 0 else svF (sgn b) (magn (rung b) / unitV)
theorem magn_most : magn mostR = 2 ^ 53 * unitV := by
  obtain ⟨r, h1, h2, h3⟩ := whole_rung (k := 2 ^ 53) (Nat.le_refl _)
  have hu := unit_eq
  rw [show mostR = 1076 * 2 ^ 52 from rfl]
  unfold magn
  rw [if_neg (by omega), show 1076 * 2 ^ 52 % 2 ^ 52 = 0 by omega, show 1076 * 2 ^ 52 / 2 ^ 52 - 1 = 1 + uP by have := uP_eq; omega, Nat.add_zero, hu, Nat.pow_add, ← Nat.mul_assoc]
theorem whole_mul {V : Nat} (h : V % unitV = 0) : V / unitV * unitV = V := by
  have := Nat.div_add_mod V unitV
  rw [h, Nat.add_zero, Nat.mul_comm] at this
  exact this
theorem wholeK_whole (way : Ieee.Toward) (s : Bool) {V : Nat} (h : V % unitV = 0) : wholeK way s V = V / unitV := by unfold wholeK; rw [h]; simp
theorem floor_whole {b : Nat} (hb : b < 2 ^ 64) (hf : rung b < infR) : floorC b = b ↔ isWhole b := by
  obtain ⟨r, h1, h2, h3⟩ := floor_word hf
  constructor
  · intro h
    rw [h2] at h
    have : rung (Ieee.double.word (sgn b) r) = rung b := by rw [h]
    rw [(word_parts h1).1] at this
    unfold isWhole
    rw [← this, h3]; exact Nat.mul_mod_left _ _
  · intro h
    rw [wholeK_whole _ _ h, whole_mul h] at h3
    rw [h2, magn_inj.2.1 h3, word_self hb]
theorem trunc_whole {b : Nat} (hb : b < 2 ^ 64) (hf : rung b < infR) : (ford b (truncN b) != some .eq) = !decide (isWhole b) := by
  obtain ⟨r, h1, h2, h3⟩ := integral_word .zero (.inr rfl) hf
  obtain ⟨w1, w2, w3⟩ := word_parts (s := sgn b) h1
  have e : truncN b = Ieee.double.word (sgn b) r := h2
  have hk : wholeK .zero (sgn b) (magn (rung b)) = magn (rung b) / unitV := by unfold wholeK; simp
  rw [hk] at h3
  have n1 : isNan b = false := by rw [isNan_eq]; exact decide_eq_false (by omega)
  have n2 : isNan (truncN b) = false := by rw [e]; exact isNan_word (Nat.le_of_lt h1)
  have h4 : (sr b = sr (truncN b)) ↔ isWhole b := by
    unfold sr
    rw [e, w1, w2]
    have : rung b = r ↔ isWhole b := by
      constructor
      · intro h; unfold isWhole; rw [h, h3]; exact Nat.mul_mod_left _ _
      · intro h; rw [whole_mul h] at h3; exact (magn_inj.2.1 h3).symm
    rw [← this]
    split <;> omega
  have h5 := ford_eql n1 n2
  rw [bne, h5]
  rw [decide_eq_decide.2 h4]
theorem trunc_int {b : Nat} (hf : rung b < infR) : (FloatKind.f64.decode b).toInt .zero = some (svF (sgn b) (magn (rung b) / unitV)) := by
  obtain ⟨m, a, hd, hm⟩ := rdw_finite hf
  show (rdw b).toInt .zero = _
  unfold Ieee.Datum.toInt
  rw [hd, integral_fin .zero (.inr rfl), hm]
  show some (Ieee.signed (sgn b) _ 0) = _
  have hk : wholeK .zero (sgn b) (magn (rung b)) = magn (rung b) / unitV := by unfold wholeK; simp
  rw [signed_eq, hk, Int.pow_zero, Int.mul_one]; rfl
theorem small_whole {b : Nat} (h : rung b ≤ mostR) : magn (rung b) / unitV ≤ 2 ^ 53 := by
  have h1 : ¬ magn mostR < magn (rung b) := fun h' => by have := magn_inj.1.1 h'; omega
  rw [magn_most] at h1
  have := Nat.div_le_div_right (c := unitV) (Nat.not_lt.1 h1)
  rwa [Nat.mul_div_cancel _ unit_pos] at this
theorem int_t {b : Nat} (h : infR ≤ rung b ∨ ¬ isWhole b) : intV b = 0 ∧ intE b = 7 := by
  unfold intV intE
  exact ⟨if_pos (h.elim .inl fun h => .inr (.inl h)), if_pos h⟩
theorem int_r {b : Nat} (hf : rung b < infR) (hw : isWhole b) (h : mostR < rung b) : intV b = 0 ∧ intE b = 4 := by
  unfold intV intE
  exact ⟨if_pos (.inr (.inr h)), by rw [if_neg (fun h' => h'.elim (fun h => by omega) (fun h => h hw)), if_pos h]⟩
theorem int_o {b : Nat} (hf : rung b < infR) (hw : isWhole b) (h : rung b ≤ mostR) : intV b = svF (sgn b) (magn (rung b) / unitV) ∧ intE b = 0 := by
  unfold intV intE
  exact ⟨if_neg (fun h' => h'.elim (fun h => by omega) (fun h' => h'.elim (fun h => h hw) (fun h => by omega))), by rw [if_neg (fun h' => h'.elim (fun h => by omega) (fun h => h hw)), if_neg (by omega)]⟩
theorem sv_fits {s : Bool} {K : Nat} (h : K ≤ 2 ^ 53) : -9223372036854775808 ≤ svF s K ∧ svF s K ≤ 9223372036854775807 := by
  unfold svF; split <;> omega
theorem nearest_lt {n : Int} : FloatKind.f64.nearest n < 2 ^ 64 := write_lt64 (.number (n < 0) n.natAbs 0)
theorem near_word {n : Int} (h : -9007199254740992 ≤ n ∧ n ≤ 9007199254740992) : ∃ r, r < infR ∧ r ≤ mostR ∧ FloatKind.f64.nearest n = Ieee.double.word (decide (n < 0)) r ∧ magn r = n.natAbs * unitV := by
  obtain ⟨r, h1, h2, h3⟩ := whole_rung (k := n.natAbs) (by omega)
  refine ⟨r, h1, h3, ?_, h2⟩
  have e0 : leastP + ((uP : Nat) : Int) = 0 := by decide
  show Ieee.double.write (.number (decide (n < 0)) n.natAbs 0) = _
  rw [← e0]
  exact write_number (by rw [h2, unit_eq]) h1
theorem sign_scale {T n : Int} {j : Nat} (h : T * 2 ^ j = n * (unitV : Nat)) : (T = 0 ↔ n = 0) ∧ (T < 0 ↔ n < 0) := by
  have hp : (0 : Int) < 2 ^ j := Int.pow_pos (by decide)
  have hu : (0 : Int) < (unitV : Nat) := by have := unit_pos; omega
  constructor
  · constructor
    · intro e
      rw [e, Int.zero_mul] at h
      rcases Int.mul_eq_zero.1 h.symm with h | h
      · exact h
      · omega
    · intro e
      rw [e, Int.zero_mul] at h
      rcases Int.mul_eq_zero.1 h with h | h
      · exact h
      · omega
  · constructor
    · intro e
      have := Int.mul_neg_of_neg_of_pos e hp
      rw [h] at this
      apply Int.lt_of_not_ge
      intro hn
      have := Int.mul_nonneg hn (Int.le_of_lt hu)
      omega
    · intro e
      have := Int.mul_neg_of_neg_of_pos e hu
      rw [← h] at this
      apply Int.lt_of_not_ge
      intro hn
      have := Int.mul_nonneg hn (Int.le_of_lt hp)
      omega
theorem sum_whole {x : Nat} {z p q : Int} (hx : rung x < infR) (hp : svF (sgn x) (magn (rung x)) = p * (unitV : Nat))
    {t : Bool} {k c : Nat} (hs : svF t (k * 2 ^ c) = q * (unitV : Nat)) (hz : z = p + q) (hb : -9007199254740992 ≤ z ∧ z ≤ 9007199254740992) (h0 : z = 0 → (sgn x && t) = false) :
    (((rdw x).sum (.number t k (leastP + c))).map Ieee.double.write).getD oneNan = FloatKind.f64.nearest z := by
  obtain ⟨m, a, hd1, hm⟩ := rdw_finite hx
  rw [hd1]
  obtain ⟨T, t1, t2⟩ := sum_fin (sgn x) t m k a c
  rw [t1]
  rw [hm, hp, hs, ← Int.add_mul, ← hz] at t2
  obtain ⟨s1, s2⟩ := sign_scale t2
  obtain ⟨r, r1, r2, r3, r4⟩ := near_word hb
  have t3 := natAbs_pow t2
  rw [Int.natAbs_mul] at t3
  rw [Option.map_some, Option.getD_some, write_number (r := r) (by rw [t3, r4]; rfl) r1, r3]
  congr 1
  by_cases hT : T = 0
  · rw [if_pos hT, h0 (s1.1 hT), decide_eq_false (by have := s1.1 hT; omega)]
  · rw [if_neg hT, decide_eq_decide]; exact s2
/-! ### the page's own floor -/
theorem magn_small {r : Nat} (h : r < 1023 * 2 ^ 52) : magn r < unitV := by
  rw [← magn_one]; exact magn_lt (show r < oneR from h)
theorem magn_big {r : Nat} (h : 1075 * 2 ^ 52 ≤ r) : magn r % unitV = 0 := by
  unfold magn
  rw [if_neg (by omega)]
  obtain ⟨c, hc⟩ : ∃ c, r / 2 ^ 52 - 1 = uP + c := ⟨r / 2 ^ 52 - 1 - uP, by have := uP_eq; omega⟩
  rw [hc, Nat.pow_add, ← unit_eq, Nat.mul_comm unitV, ← Nat.mul_assoc]
  exact Nat.mul_mod_left _ _
theorem magn_mid {r d : Nat} (h1 : 1023 * 2 ^ 52 ≤ r) (h2 : r < 1075 * 2 ^ 52) (hd : d = 1075 - r / 2 ^ 52) :
    (magn r % unitV = 0 ↔ r % 2 ^ d = 0) ∧ magn (r - r % 2 ^ d) = magn r / unitV * unitV ∧ 1 ≤ d ∧ d ≤ 52 ∧ r % 2 ^ d ≤ r % 2 ^ 52 := by
  have hd1 : 1 ≤ d := by omega
  have hd2 : d ≤ 52 := by omega
  obtain ⟨q, f, hr, hf⟩ : ∃ q f, r = q * 2 ^ 52 + f ∧ f < 2 ^ 52 := ⟨r / 2 ^ 52, r % 2 ^ 52, by omega, Nat.mod_lt _ (by decide)⟩
  obtain ⟨j, hj⟩ : ∃ j, 52 = d + j := ⟨52 - d, by omega⟩
  have e52 : 2 ^ 52 = 2 ^ j * 2 ^ d := by rw [← Nat.pow_add, Nat.add_comm j d, ← hj]
  have hq : r / 2 ^ 52 = q := by omega
  have hfm : r % 2 ^ 52 = f := by omega
  have hm : r % 2 ^ d = f % 2 ^ d := by
    rw [hr, e52, ← Nat.mul_assoc, Nat.add_comm, Nat.add_mul_mod_self_right]
  have hle : f % 2 ^ d ≤ f := Nat.mod_le _ _
  have hU : unitV = 2 ^ d * 2 ^ (q - 1) := by rw [unit_eq, ← Nat.pow_add]; congr 1; have := uP_eq; omega
  have hp := Nat.two_pow_pos (q - 1)
  have hV : magn r = (2 ^ 52 + f) * 2 ^ (q - 1) := by unfold magn; rw [if_neg (by omega), hq, hfm]
  have hlow : (2 ^ 52 + f) % 2 ^ d = f % 2 ^ d := by rw [e52, Nat.add_comm, Nat.add_mul_mod_self_right]
  have v1 : magn r % unitV = f % 2 ^ d * 2 ^ (q - 1) := by rw [hV, hU, Nat.mul_mod_mul_right, hlow]
  have v2 : magn r / unitV * unitV = (2 ^ 52 + (f - f % 2 ^ d)) * 2 ^ (q - 1) := by
    have this := Nat.div_add_mod (2 ^ 52 + f) (2 ^ d)
    rw [hlow, Nat.mul_comm] at this
    have e3 : (2 ^ 52 + f) / 2 ^ d * 2 ^ d = 2 ^ 52 + (f - f % 2 ^ d) := by omega
    rw [hV, hU, Nat.mul_div_mul_right _ _ hp, ← Nat.mul_assoc, e3]
  refine ⟨?_, ?_, hd1, hd2, by rw [hm, hfm]; exact hle⟩
  · rw [v1, hm]
    constructor
    · intro h
      rcases Nat.mul_eq_zero.1 h with h | h
      · exact h
      · omega
    · intro h; rw [h, Nat.zero_mul]
  · rw [v2, hm, hr]
    generalize f % 2 ^ d = g at *
    unfold magn
    rw [if_neg (by omega), show (q * 2 ^ 52 + f - g) / 2 ^ 52 = q by omega, show (q * 2 ^ 52 + f - g) % 2 ^ 52 = f - g by omega]
theorem refFloor_zero {b : Nat} (hb : b < 2 ^ 64) (h : rung b < 1023 * 2 ^ 52) (hs : b < 2 ^ 63) : floorC b = 0 := by
  obtain ⟨r, h1, h2, h3⟩ := floor_word (b := b) (by unfold infR; omega)
  have e : sgn b = false := by rw [sgn_eq hb]; exact decide_eq_false (by omega)
  rw [e] at h2 h3
  unfold wholeK at h3
  rw [Nat.div_eq_of_lt (magn_small h)] at h3
  simp at h3
  rw [h2, magn_eq0 h3]; rfl
theorem refFloor_minus {b : Nat} (hb : b < 2 ^ 64) (h : rung b < 1023 * 2 ^ 52) (h0 : rung b ≠ 0) (hs : 2 ^ 63 ≤ b) : floorC b = 13830554455654793216 := by
  obtain ⟨r, h1, h2, h3⟩ := floor_word (b := b) (by unfold infR; omega)
  have e : sgn b = true := by rw [sgn_eq hb]; exact decide_eq_true hs
  rw [e] at h2 h3
  have hm := magn_small h
  have hz : magn (rung b) ≠ 0 := fun h' => h0 (magn_eq0 h')
  unfold wholeK at h3
  rw [Nat.div_eq_of_lt hm, Nat.mod_eq_of_lt hm] at h3
  have : (magn (rung b) != 0) = true := by simpa using hz
  rw [this] at h3
  simp at h3
  have hr : r = oneR := magn_inj.2.1 (h3.trans magn_one.symm)
  rw [h2, hr]; decide
theorem refFloor_plus {b d : Nat} (hb : b < 2 ^ 64) (h1 : 1023 * 2 ^ 52 ≤ rung b) (h2 : rung b < 1075 * 2 ^ 52) (hd : d = 1075 - rung b / 2 ^ 52) (hs : b < 2 ^ 63) : floorC b = b - b % 2 ^ d := by
  obtain ⟨m1, m2, m3, m4, m5⟩ := magn_mid h1 h2 hd
  have hf : rung b < infR := by unfold infR; omega
  obtain ⟨r, k1, k2, k3⟩ := floor_word hf
  have e : sgn b = false := by rw [sgn_eq hb]; exact decide_eq_false (by omega)
  have er : rung b = b := by unfold rung; omega
  rw [e] at k2 k3
  have hk : wholeK .down false (magn (rung b)) = magn (rung b) / unitV := by unfold wholeK; simp
  rw [hk, ← m2] at k3
  rw [k2, magn_inj.2.1 k3, er]; rfl
theorem refFloor_less {b d : Nat} (hb : b < 2 ^ 64) (h1 : 1023 * 2 ^ 52 ≤ rung b) (h2 : rung b < 1075 * 2 ^ 52) (hd : d = 1075 - rung b / 2 ^ 52) (hs : 2 ^ 63 ≤ b) (hz : b % 2 ^ d ≠ 0) :
    arithN .sub (b - b % 2 ^ d) 4607182418800017408 = floorC b := by
  obtain ⟨m1, m2, m3, m4, m5⟩ := magn_mid h1 h2 hd
  have hf : rung b < infR := by unfold infR; omega
  obtain ⟨r, k1, k2, k3⟩ := floor_word hf
  have e : sgn b = true := by rw [sgn_eq hb]; exact decide_eq_true hs
  have er : b = 2 ^ 63 + rung b := by unfold rung; omega
  have hbd : b % 2 ^ d = rung b % 2 ^ d := by
    obtain ⟨j, hj⟩ : ∃ j, 63 = j + d := ⟨63 - d, by omega⟩
    have e63 : 2 ^ 63 = 2 ^ j * 2 ^ d := by rw [hj, Nat.pow_add]
    conv => lhs; rw [er, e63, Nat.add_comm, Nat.add_mul_mod_self_right]
  rw [hbd] at hz ⊢
  have hle : rung b % 2 ^ d ≤ rung b := Nat.mod_le _ _
  have hw : b - rung b % 2 ^ d = Ieee.double.word true (rung b - rung b % 2 ^ d) := by
    show _ = 2 ^ 63 + _
    omega
  have hri : rung b - rung b % 2 ^ d < infR := by omega
  obtain ⟨w1, w2, w3⟩ := word_parts (s := true) hri
  obtain ⟨o1, o2, o3⟩ := word_parts (s := false) (r := oneR) (by decide)
  obtain ⟨k, c, hd', hk⟩ := rdw_finite (b := Ieee.double.word false oneR) (by rw [o1]; decide)
  rw [o1, magn_one] at hk
  rw [o2] at hd'
  have hKd : ∃ K, K = magn (rung b) / unitV := ⟨_, rfl⟩
  obtain ⟨K, hKe⟩ := hKd
  have hK : K < 2 ^ 53 := by
    rw [hKe]
    have : magn (rung b) % unitV ≠ 0 := fun h => hz (m1.1 h)
    have := (Nat.div_lt_iff_lt_mul unit_pos).2 (magn_part this)
    omega
  rw [← one_word, hw]
  show (((rdw _).sum (rdw _).opposite).map Ieee.double.write).getD oneNan = _
  rw [hd']
  show (((rdw _).sum (.number true k (leastP + c))).map Ieee.double.write).getD oneNan = _
  have hsum := sum_whole (x := Ieee.double.word true (rung b - rung b % 2 ^ d)) (p := -((K : Nat) : Int)) (q := -1) (z := -((K : Nat) : Int) - 1) (t := true) (k := k) (c := c)
    (by rw [w1]; exact hri) (by rw [w1, w2, m2, ← hKe]; unfold svF; simp [Int.neg_mul]) (by rw [hk]; unfold svF; simp) (by omega) (by omega) (by intro h; omega)
  rw [hsum, k2, e]
  obtain ⟨r', r1, r2, r3, r4⟩ := near_word (n := -((K : Nat) : Int) - 1) (by omega)
  rw [r3, decide_eq_true (by omega)]
  congr 1
  rw [e] at k3
  have hk3 : wholeK .down true (magn (rung b)) = K + 1 := by
    unfold wholeK
    rw [← hKe]
    have : (magn (rung b) % unitV != 0) = true := by simpa using fun h => hz (m1.1 h)
    rw [this]; rfl
  rw [hk3] at k3
  apply magn_inj.2.1
  rw [r4, k3]
  congr 1
  omega
end Go.Proofs.YtjhonjdhanlbkaaGreat.J

/- Walks: the order of numbers, for the seats that reach no more of floats. -/
namespace Go.Proofs.YtjhonjdhanlbkaaGreat.J
open Go Go.RowKit
set_option maxRecDepth 10000
set_option maxHeartbeats 4000000
theorem not_bits {b : Nat} (hb : b < 2 ^ 64) : bitsOp .xor .u64 (if IntKind.u64.signed then -1 else IntKind.u64.max) (b : Int) = ((2 ^ 64 - 1 - b : Nat) : Int) := by
  have e : (if IntKind.u64.signed then -1 else IntKind.u64.max) = ((2 ^ 64 - 1 : Nat) : Int) := by decide
  rw [e, bits_xor _ b (by decide) hb]
  congr 1
  apply Nat.eq_of_testBit_eq
  intro i
  rw [Nat.testBit_xor, show 2 ^ 64 - 1 - b = 2 ^ 64 - (b + 1) by omega, Nat.testBit_two_pow_sub_succ hb, Nat.testBit_two_pow_sub_one]
  by_cases h : i < 64
  · simp [h]
  · have : b.testBit i = false := Nat.testBit_lt_two_pow (Nat.lt_of_lt_of_le hb (Nat.pow_le_pow_right (by decide) (by omega)))
    simp [h, this]
theorem or_sign {b : Nat} (hb : b < 2 ^ 63) : bitsOp .or .u64 (b : Int) 9223372036854775808 = ((b + 2 ^ 63 : Nat) : Int) := by
  rw [show (9223372036854775808 : Int) = ((2 ^ 63 : Nat) : Int) by decide, bits_or b _ (by omega) (by decide)]
  congr 1
  rw [Nat.or_comm, Nat.add_comm]
  have := Nat.two_pow_add_eq_or_of_lt hb 1
  rw [Nat.mul_one] at this
  exact this.symm
theorem order_ok (b : Nat) (hb : b < 2 ^ 64) : Fn Tryz.prog 123 [.c (.int .u64 (b : Int))] (.c (.int .u64 (orderN b : Int))) := by
  refine AC.of_J Tryz.func123 rfl Tryz.ntmps123 rfl fun w0 A0 => ?_
  refine Zs (Zq rfl (QW.assign .const) (Zn (J.seq (Zs (Zq rfl (QW.move (.tmp rfl)) (Zq rfl (QW.ext (extFrom _) (.tmp rfl)) (Zq rfl (QW.assign (.tmp rfl)) (Zn (Zs ?_)))))))))
  refine Zq rfl (QW.move (.tmp rfl)) (Zq rfl (QW.move (.tmp rfl)) (Zq rfl (QW.neq_f (.tmp rfl) (.tmp rfl)) (Zn ?_)))
  refine J.cond (.tmp rfl) (fun c1 => ?_) (fun c1 => ?_)
  ·
    rw [fneq_self] at c1
    refine Zs (Zq rfl (QW.assign .const) (Zn (J.ret (thenQ.r ?_))))
    exact ⟨_, [], _, RetEv.one rfl (REv.tmp rfl lr), rfl, List.Perm.refl _, by simp [orderN, c1], rfl⟩
  ·
    rw [fneq_self] at c1
    refine Zk (Zs (Zq rfl (QW.move (.tmp rfl)) (Zq rfl (QW.move (.tmp rfl)) (Zq rfl (QW.conv_int us22 iu2 (.tmp rfl) rfl) (Zq rfl (QW.shr (.tmp rfl) .const (by decide) rfl) ?_)))))
    refine Zq rfl (QW.conv_int us2 iu22 (.tmp rfl) rfl) (Zq rfl (QW.or (.tmp rfl) .const rfl) (Zq rfl (QW.xor (.tmp rfl) (.tmp rfl) rfl) (Zq rfl (QW.assign (.tmp rfl)) (Zn (J.ret ?_)))))
    exact ⟨_, [], _, RetEv.one rfl (REv.tmp rfl lr), rfl, List.Perm.refl _, by rw [← order_bits hb c1]; rfl, rfl⟩
theorem rorder_ok (b : Nat) (hb : b < 2 ^ 64) : Fn Tryz.prog 137 [.c (.int .u64 (b : Int))] (.c (.int .u64 (orderN b : Int))) := by
  refine AC.of_J Tryz.func137 rfl Tryz.ntmps137 rfl fun w0 A0 => ?_
  refine Zs (Zq rfl (QW.assign .const) (Zn (J.seq (J.block (Zs (Zq rfl (QW.move (.tmp rfl)) (Zq rfl (QW.call gofn89 (.cons (.tmp rfl) .nil) (by (apply rclass_ok <;> first | assumption | omega))) ?_)))))))
  refine Zq rfl (QW.eql (.tmp rfl) .const) (Zq rfl (QW.assign (.tmp rfl)) (Zn ?_))
  refine J.cond (.tmp rfl) (fun c1 => ?_) (fun c1 => ?_)
  ·
    simp at c1
    refine Zs (Zq rfl (QW.assign .const) (Zn (J.ret (blkQ.r (thenQ.r ?_)))))
    exact ⟨_, [], _, RetEv.one rfl (REv.tmp rfl lr), rfl, List.Perm.refl _, by unfold orderN; rw [if_pos (class_nan.1 (by omega))]; rfl, rfl⟩
  ·
    simp at c1
    have hn : isNan b = false := by cases h : isNan b with | false => rfl | true => exact absurd (class_nan.2 h) (by omega)
    refine Zs (Zq rfl (QW.move (.tmp rfl)) (Zq rfl (QW.geq (.tmp rfl) .const) (Zq rfl (QW.assign (.tmp rfl)) (Zn ?_))))
    refine J.cond (.tmp rfl) (fun c2 => ?_) (fun c2 => ?_)
    ·
      simp at c2
      have hb2 : 2 ^ 63 ≤ b := by omega
      refine Zs (Zq rfl (QW.move (.tmp rfl)) (Zq rfl (QW.inv (.tmp rfl) (not_bits hb)) (Zq rfl (QW.assign (.tmp rfl)) (Zn (J.ret (blkQ.r (thenQ.r ?_)))))))
      exact ⟨_, [], _, RetEv.one rfl (REv.tmp rfl lr), rfl, List.Perm.refl _, by unfold orderN; rw [hn, if_neg (by decide), if_pos hb2], rfl⟩
    ·
      simp at c2
      have hb2 : b < 2 ^ 63 := by omega
      refine J.skip (blkQ.n (thenQ.n (Zs (Zq rfl (QW.move (.tmp rfl)) (Zq rfl (QW.or (.tmp rfl) .const (or_sign hb2)) (Zq rfl (QW.assign (.tmp rfl)) (Zn (J.ret ?_))))))))
      exact ⟨_, [], _, RetEv.one rfl (REv.tmp rfl lr), rfl, List.Perm.refl _, by unfold orderN; rw [hn, if_neg (by decide), if_neg (by omega)], rfl⟩
end Go.Proofs.YtjhonjdhanlbkaaGreat.J

/- Walks: numbers (the package float): classes, operations, floors. -/
namespace Go.Proofs.YtjhonjdhanlbkaaGreat.J
open Go Go.RowKit
set_option maxRecDepth 10000
set_option maxHeartbeats 4000000
theorem class_fin {b : Nat} : classN b < 4 ↔ rung b < infR := by
  unfold classN
  rw [isNan_eq]
  by_cases h1 : infR < rung b
  · rw [if_pos (by simpa using h1)]; omega
  · rw [if_neg (by simpa using h1)]
    by_cases h2 : rung b = infR
    · rw [if_pos h2]; omega
    · rw [if_neg h2]
      (repeat' split) <;> omega
theorem class_ge {b : Nat} : 4 ≤ classN b ↔ infR ≤ rung b := by
  have := @class_fin b
  omega
theorem abs_ok (b : Nat) (hb : b < 2 ^ 64) : Fn Tryz.prog 131 [.c (flt b)] (.c (flt (b % 2 ^ 63))) := by
  refine AC.of_J Tryz.func131 rfl Tryz.ntmps131 rfl fun w0 A0 => ?_
  refine Zs (Zq rfl (QW.assign .const) (Zn (Zs (Zq rfl (QW.move (.tmp rfl)) (Zq rfl (QW.ext (extBits _) (.tmp rfl)) (Zq rfl (QW.andNot (.tmp rfl) .const (absbits b hb)) (Zq rfl (QW.ext (extFrom _) (.tmp rfl)) (Zq rfl (QW.assign (.tmp rfl)) (Zn ?_)))))))))
  refine J.ret ?_
  exact ⟨_, [], _, RetEv.one rfl (REv.tmp rfl lr), rfl, List.Perm.refl _, rfl, rfl⟩
theorem isinf_ok (b : Nat) (hb : b < 2 ^ 64) : Fn Tryz.prog 141 [.c (flt b), .c (.int .i64 0)] (.c (.bool (decide (rung b = infR)))) := by
  refine AC.of_J Tryz.func141 rfl Tryz.ntmps141 rfl fun w0 A0 => ?_
  refine Zs (Zq rfl (QW.assign .const) (Zn (J.seq (Zs (Zq rfl (QW.move (.tmp rfl)) (Zq rfl (QW.eql (.tmp rfl) .const) (Zn ?_)))))))
  refine J.cond (.tmp rfl) (fun c1 => ?_) (fun c1 => absurd c1 (by decide))
  refine J.region_lit (Zq rfl (QW.move (.tmp rfl)) (Zq rfl (QW.call gofn131 (.cons (.tmp rfl) .nil) (by (apply abs_ok <;> first | assumption | omega))) ?_))
  refine Zq rfl (QW.assign (.tmp rfl)) (Zn (Zs (Zq rfl (QW.move (.tmp rfl)) (Zq rfl (QW.gtr_f (.tmp rfl) .const) (Zq rfl (QW.assign (.tmp rfl)) (Zn (J.ret ?_)))))))
  exact ⟨_, [], _, RetEv.one rfl (REv.tmp rfl lr), rfl, List.Perm.refl _, by
      by_cases hn : isNan b = true
      · rw [ford_nanL (by rw [isNan_abs]; exact hn)]
        rw [isNan_eq] at hn; simp at hn
        congr 3; simp; omega
      · rw [ford_gt (by rw [isNan_abs]; simpa using hn) (by decide), sr_abs]
        rw [isNan_eq] at hn; simp at hn
        congr 3
        rw [show sr 9218868437227405311 = 9218868437227405311 by decide]
        simp; unfold infR at *; omega, rfl⟩
theorem signbit_ok (b : Nat) (hb : b < 2 ^ 64) : Fn Tryz.prog 146 [.c (flt b)] (.c (.bool (decide (2 ^ 63 ≤ b)))) := by
  refine AC.of_J Tryz.func146 rfl Tryz.ntmps146 rfl fun w0 A0 => ?_
  refine Zs (Zq rfl (QW.assign .const) (Zn (Zs (Zq rfl (QW.move (.tmp rfl)) (Zq rfl (QW.ext (extBits _) (.tmp rfl)) (Zq rfl (QW.conv_int us22 iu2 (.tmp rfl) rfl) (Zq rfl (QW.lss (.tmp rfl) .const) (Zq rfl (QW.assign (.tmp rfl)) (Zn ?_)))))))))
  refine J.ret ?_
  exact ⟨_, [], _, RetEv.one rfl (REv.tmp rfl lr), rfl, List.Perm.refl _, by
      congr 3
      rw [decide_eq_decide]
      by_cases h : 2 ^ 63 ≤ b
      · rw [wrap_i64_hi h hb]; omega
      · rw [w64 (by omega)]; omega, rfl⟩
theorem class_ok (b : Nat) (hb : b < 2 ^ 64) : Fn Tryz.prog 129 [.c (.int .u64 (b : Int))] (.c (.int .i64 (classN b))) := by
  refine AC.of_J Tryz.func129 rfl Tryz.ntmps129 rfl fun w0 A0 => ?_
  refine Zs (Zq rfl (QW.assign .const) (Zn (Zs (Zq rfl (QW.move (.tmp rfl)) (Zq rfl (QW.ext (extFrom _) (.tmp rfl)) (Zq rfl (QW.assign (.tmp rfl)) (Zn (Zs (Zq rfl (QW.move (.tmp rfl)) ?_)))))))))
  refine Zq rfl (QW.call gofn131 (.cons (.tmp rfl) .nil) (by (apply abs_ok <;> first | assumption | omega))) ?_
  refine Zq rfl (QW.assign (.tmp rfl)) (Zn (J.seq (J.block (Zs (Zq rfl (QW.move (.tmp rfl)) (Zq rfl (QW.move (.tmp rfl)) (Zq rfl (QW.neq_f (.tmp rfl) (.tmp rfl)) (Zq rfl (QW.assign (.tmp rfl)) (Zn ?_)))))))))
  refine J.cond (.tmp rfl) (fun c1 => ?_) (fun c1 => ?_)
  ·
    rw [fneq_self] at c1
    refine Zs (Zq rfl (QW.assign .const) (Zn (J.ret (blkQ.r (thenQ.r ?_)))))
    exact ⟨_, [], _, RetEv.one rfl (REv.tmp rfl lr), rfl, List.Perm.refl _, by simp [classN, c1], rfl⟩
  ·
    rw [fneq_self] at c1
    have ha : isNan (b % 2 ^ 63) = false := by rw [isNan_abs]; exact c1
    refine Zs (Zq rfl (QW.move (.tmp rfl)) (Zq rfl (QW.call gofn141 (.cons (.tmp rfl) (.cons (.const) .nil)) (by (apply isinf_ok <;> first | assumption | omega))) ?_))
    refine Zq rfl (QW.assign (.tmp rfl)) (Zn ?_)
    refine J.cond (.tmp rfl) (fun c2 => ?_) (fun c2 => ?_)
    ·
      simp at c2
      refine Zs (Zq rfl (QW.assign .const) (Zn (J.ret (blkQ.r (thenQ.r ?_)))))
      exact ⟨_, [], _, RetEv.one rfl (REv.tmp rfl lr), rfl, List.Perm.refl _, by simp [classN, c1, c2], rfl⟩
    ·
      simp at c2
      refine Zs (Zq rfl (QW.move (.tmp rfl)) (Zq rfl (QW.geq_f (.tmp rfl) .const) (Zq rfl (QW.assign (.tmp rfl)) (Zn ?_))))
      refine J.cond (.tmp rfl) (fun c3 => ?_) (fun c3 => ?_)
      ·
        rw [ford_gt ha (by decide), ford_eql ha (by decide), sr_abs, show sr 4503599627370496 = 4503599627370496 by decide] at c3; simp at c3
        refine Zs (Zq rfl (QW.assign .const) (Zn (J.ret (blkQ.r (thenQ.r ?_)))))
        exact ⟨_, [], _, RetEv.one rfl (REv.tmp rfl lr), rfl, List.Perm.refl _, by unfold classN; rw [c1, if_neg (by decide), if_neg c2, if_pos (by omega)], rfl⟩
      ·
        rw [ford_gt ha (by decide), ford_eql ha (by decide), sr_abs, show sr 4503599627370496 = 4503599627370496 by decide] at c3; simp at c3
        refine Zs (Zq rfl (QW.move (.tmp rfl)) (Zq rfl (QW.gtr_f (.tmp rfl) .const) (Zq rfl (QW.assign (.tmp rfl)) (Zn ?_))))
        refine J.cond (.tmp rfl) (fun c4 => ?_) (fun c4 => ?_)
        ·
          rw [ford_gt ha (by decide), sr_abs, show sr 0 = 0 by decide] at c4; simp at c4
          refine Zs (Zq rfl (QW.assign .const) (Zn (J.ret (blkQ.r (thenQ.r ?_)))))
          exact ⟨_, [], _, RetEv.one rfl (REv.tmp rfl lr), rfl, List.Perm.refl _, by unfold classN; rw [c1, if_neg (by decide), if_neg c2, if_neg (by omega), if_pos (by omega)], rfl⟩
        ·
          rw [ford_gt ha (by decide), sr_abs, show sr 0 = 0 by decide] at c4; simp at c4
          refine Zs (Zq rfl (QW.move (.tmp rfl)) (Zq rfl (QW.call gofn146 (.cons (.tmp rfl) .nil) (by (apply signbit_ok <;> first | assumption | omega))) ?_))
          refine Zq rfl (QW.assign (.tmp rfl)) (Zn ?_)
          refine J.cond (.tmp rfl) (fun c5 => ?_) (fun c5 => ?_)
          ·
            simp at c5
            refine Zs (Zq rfl (QW.assign .const) (Zn (J.ret (blkQ.r (thenQ.r ?_)))))
            exact ⟨_, [], _, RetEv.one rfl (REv.tmp rfl lr), rfl, List.Perm.refl _, by unfold classN; rw [c1, if_neg (by decide), if_neg c2, if_neg (by omega), if_neg (by omega), if_pos (by omega)], rfl⟩
          ·
            simp at c5
            refine J.skip (blkQ.n (thenQ.n (Zs (Zq rfl (QW.assign .const) (Zn (J.ret ?_))))))
            exact ⟨_, [], _, RetEv.one rfl (REv.tmp rfl lr), rfl, List.Perm.refl _, by unfold classN; rw [c1, if_neg (by decide), if_neg c2, if_neg (by omega), if_neg (by omega), if_neg (by omega)], rfl⟩
theorem two_ok (op : BinOp) (g : Nat) (a b : Nat) (hgo : goFn Tryz.prog g = true) (hg : FnR Tryz.prog g [.c (flt a), .c (flt b)] (fun z => ∃ c, z = .c (flt c) ∧ (farithN op a b = some c ∨ (farithN op a b = none ∧ nanAny c)))) : Fn Tryz.prog 115 [.c (.int .u64 (a : Int)), .c (.int .u64 (b : Int)), .c (.func (.func g) #[] #[])] (.c (.int .u64 (arithN op a b : Int))) := by
  refine AC.of_J Tryz.func115 rfl Tryz.ntmps115 rfl fun w0 A0 => ?_
  refine Zs (Zq rfl (QW.assign .const) (Zn (Zs (Zq rfl (QW.move (.tmp rfl)) (Zq rfl (QW.move (.tmp rfl)) (Zq rfl (QW.ext (extFrom _) (.tmp rfl)) (Zq rfl (QW.move (.tmp rfl)) (Zq rfl (QW.ext (extFrom _) (.tmp rfl)) (JL.callV0 (fi := []) (ca := []) hgo rfl (.tmp rfl) (.cons (.tmp rfl) (.cons (.tmp rfl) .nil)) rfl (hg) ?_)))))))))
  rintro _ ⟨x12, rfl, h12⟩
  refine Zq rfl (QW.call gofn96 (.cons (.tmp rfl) .nil) (by (apply of_ok <;> first | assumption | omega))) ?_
  refine Zq rfl (QW.assign (.tmp rfl)) (Zn (J.ret ?_))
  exact ⟨_, [], _, RetEv.one rfl (REv.tmp rfl lr), rfl, List.Perm.refl _, by rw [arith_canon h12], rfl⟩
theorem fadd_ok (a b : Nat) : FnR Tryz.prog 116 [.c (flt a), .c (flt b)] (fun z => ∃ c, z = .c (flt c) ∧ (farithN .add a b = some c ∨ (farithN .add a b = none ∧ nanAny c))) := by
  refine AC.of_J Tryz.func116 rfl Tryz.ntmps116 rfl fun w0 A0 => ?_
  refine Zs (Zq rfl (QW.assign .const) (Zn (Zs (Zq rfl (QW.move (.tmp rfl)) (Zq rfl (QW.move (.tmp rfl)) (JL.farith (by decide) (.tmp rfl) (.tmp rfl) rfl fun x7 h7 => ?_))))))
  refine Zq rfl (QW.assign (.tmp rfl)) (Zn (J.ret ?_))
  exact ⟨_, [], _, RetEv.one rfl (REv.tmp rfl lr), rfl, List.Perm.refl _, rfl, _, rfl, ⟨_, rfl, by assumption⟩⟩
theorem add_ok (a b : Nat) : Fn Tryz.prog 92 [.c (.int .u64 (a : Int)), .c (.int .u64 (b : Int))] (.c (.int .u64 (arithN .add a b : Int))) := by
  refine AC.of_J Tryz.func92 rfl Tryz.ntmps92 rfl fun w0 A0 => ?_
  refine Zs (Zq rfl (QW.assign .const) (Zn (Zs (Zq rfl (QW.move (.tmp rfl)) (Zq rfl (QW.move (.tmp rfl)) (Zq rfl (QW.call gofn115 (.cons (.tmp rfl) (.cons (.tmp rfl) (.cons .func .nil))) (two_ok .add _ _ _ gofn116 (fadd_ok _ _))) (Zq rfl (QW.assign (.tmp rfl)) (Zn (J.ret ?_)))))))))
  exact ⟨_, [], _, RetEv.one rfl (REv.tmp rfl lr), rfl, List.Perm.refl _, rfl, rfl⟩
theorem fsub_ok (a b : Nat) : FnR Tryz.prog 117 [.c (flt a), .c (flt b)] (fun z => ∃ c, z = .c (flt c) ∧ (farithN .sub a b = some c ∨ (farithN .sub a b = none ∧ nanAny c))) := by
  refine AC.of_J Tryz.func117 rfl Tryz.ntmps117 rfl fun w0 A0 => ?_
  refine Zs (Zq rfl (QW.assign .const) (Zn (Zs (Zq rfl (QW.move (.tmp rfl)) (Zq rfl (QW.move (.tmp rfl)) (JL.farith (by decide) (.tmp rfl) (.tmp rfl) rfl fun x7 h7 => ?_))))))
  refine Zq rfl (QW.assign (.tmp rfl)) (Zn (J.ret ?_))
  exact ⟨_, [], _, RetEv.one rfl (REv.tmp rfl lr), rfl, List.Perm.refl _, rfl, _, rfl, ⟨_, rfl, by assumption⟩⟩
theorem sub_ok (a b : Nat) : Fn Tryz.prog 93 [.c (.int .u64 (a : Int)), .c (.int .u64 (b : Int))] (.c (.int .u64 (arithN .sub a b : Int))) := by
  refine AC.of_J Tryz.func93 rfl Tryz.ntmps93 rfl fun w0 A0 => ?_
  refine Zs (Zq rfl (QW.assign .const) (Zn (Zs (Zq rfl (QW.move (.tmp rfl)) (Zq rfl (QW.move (.tmp rfl)) (Zq rfl (QW.call gofn115 (.cons (.tmp rfl) (.cons (.tmp rfl) (.cons .func .nil))) (two_ok .sub _ _ _ gofn117 (fsub_ok _ _))) (Zq rfl (QW.assign (.tmp rfl)) (Zn (J.ret ?_)))))))))
  exact ⟨_, [], _, RetEv.one rfl (REv.tmp rfl lr), rfl, List.Perm.refl _, rfl, rfl⟩
theorem fmul_ok (a b : Nat) : FnR Tryz.prog 118 [.c (flt a), .c (flt b)] (fun z => ∃ c, z = .c (flt c) ∧ (farithN .mul a b = some c ∨ (farithN .mul a b = none ∧ nanAny c))) := by
  refine AC.of_J Tryz.func118 rfl Tryz.ntmps118 rfl fun w0 A0 => ?_
  refine Zs (Zq rfl (QW.assign .const) (Zn (Zs (Zq rfl (QW.move (.tmp rfl)) (Zq rfl (QW.move (.tmp rfl)) (JL.farith (by decide) (.tmp rfl) (.tmp rfl) rfl fun x7 h7 => ?_))))))
  refine Zq rfl (QW.assign (.tmp rfl)) (Zn (J.ret ?_))
  exact ⟨_, [], _, RetEv.one rfl (REv.tmp rfl lr), rfl, List.Perm.refl _, rfl, _, rfl, ⟨_, rfl, by assumption⟩⟩
theorem mul_ok (a b : Nat) : Fn Tryz.prog 94 [.c (.int .u64 (a : Int)), .c (.int .u64 (b : Int))] (.c (.int .u64 (arithN .mul a b : Int))) := by
  refine AC.of_J Tryz.func94 rfl Tryz.ntmps94 rfl fun w0 A0 => ?_
  refine Zs (Zq rfl (QW.assign .const) (Zn (Zs (Zq rfl (QW.move (.tmp rfl)) (Zq rfl (QW.move (.tmp rfl)) (Zq rfl (QW.call gofn115 (.cons (.tmp rfl) (.cons (.tmp rfl) (.cons .func .nil))) (two_ok .mul _ _ _ gofn118 (fmul_ok _ _))) (Zq rfl (QW.assign (.tmp rfl)) (Zn (J.ret ?_)))))))))
  exact ⟨_, [], _, RetEv.one rfl (REv.tmp rfl lr), rfl, List.Perm.refl _, rfl, rfl⟩
theorem fquo_ok (a b : Nat) : FnR Tryz.prog 119 [.c (flt a), .c (flt b)] (fun z => ∃ c, z = .c (flt c) ∧ (farithN .quo a b = some c ∨ (farithN .quo a b = none ∧ nanAny c))) := by
  refine AC.of_J Tryz.func119 rfl Tryz.ntmps119 rfl fun w0 A0 => ?_
  refine Zs (Zq rfl (QW.assign .const) (Zn (Zs (Zq rfl (QW.move (.tmp rfl)) (Zq rfl (QW.move (.tmp rfl)) (JL.farith (by decide) (.tmp rfl) (.tmp rfl) rfl fun x7 h7 => ?_))))))
  refine Zq rfl (QW.assign (.tmp rfl)) (Zn (J.ret ?_))
  exact ⟨_, [], _, RetEv.one rfl (REv.tmp rfl lr), rfl, List.Perm.refl _, rfl, _, rfl, ⟨_, rfl, by assumption⟩⟩
theorem quo_ok (a b : Nat) : Fn Tryz.prog 95 [.c (.int .u64 (a : Int)), .c (.int .u64 (b : Int))] (.c (.int .u64 (arithN .quo a b : Int))) := by
  refine AC.of_J Tryz.func95 rfl Tryz.ntmps95 rfl fun w0 A0 => ?_
  refine Zs (Zq rfl (QW.assign .const) (Zn (Zs (Zq rfl (QW.move (.tmp rfl)) (Zq rfl (QW.move (.tmp rfl)) (Zq rfl (QW.call gofn115 (.cons (.tmp rfl) (.cons (.tmp rfl) (.cons .func .nil))) (two_ok .quo _ _ _ gofn119 (fquo_ok _ _))) (Zq rfl (QW.assign (.tmp rfl)) (Zn (J.ret ?_)))))))))
  exact ⟨_, [], _, RetEv.one rfl (REv.tmp rfl lr), rfl, List.Perm.refl _, rfl, rfl⟩
theorem findFloor : Extern.find Tryz.f120 = some (Extern.MathFloor.toIntegral "math.archFloor" .down) := by kernel_rfl
theorem extFloor (b : Nat) (w : World) : (callFunc 120 #[flt b]).run Tryz.prog w = ((Extern.MathFloor.toIntegral "math.archFloor" .down #[flt b]).run Tryz.prog w).andThen fun v w => .ok (.value v) w :=
  callFunc_ext Tryz.func120 (by kernel_rfl) (by kernel_rfl) (by kernel_rfl) findFloor _ _
theorem mfloor_ok (b : Nat) : FnR Tryz.prog 97 [.c (flt b)] (fun z => ∃ c, z = .c (flt c) ∧ ((isNan b = false ∧ c = floorN b) ∨ (isNan b = true ∧ isNan c = true))) := by
  refine AC.of_J Tryz.func97 rfl Tryz.ntmps97 rfl fun w0 A0 => ?_
  refine Zs (Zq rfl (QW.assign .const) (Zn (J.seq ?_)))
  refine J.cond .const (fun c1 => ?_) (fun c1 => absurd c1 (by decide))
  refine Zs (Zq rfl (QW.move (.tmp rfl)) (JL.arch extFloor (.tmp rfl) rfl fun x4 h4 => Zq rfl (QW.assign (.tmp rfl)) (Zn (J.ret (thenQ.r ?_)))))
  exact ⟨_, [], _, RetEv.one rfl (REv.tmp rfl lr), rfl, List.Perm.refl _, rfl, _, rfl, ⟨_, rfl, h4⟩⟩
theorem floor_ok (b : Nat) : Fn Tryz.prog 73 [.c (.int .u64 (b : Int))] (.c (.int .u64 (floorC b : Int))) := by
  refine AC.of_J Tryz.func73 rfl Tryz.ntmps73 rfl fun w0 A0 => ?_
  refine Zs (Zq rfl (QW.assign .const) (Zn (Zs (Zq rfl (QW.move (.tmp rfl)) (Zq rfl (QW.ext (extFrom _) (.tmp rfl)) (JL.call0 gofn97 rfl (.cons (.tmp rfl) .nil) (mfloor_ok _) ?_))))))
  rintro _ ⟨x5, rfl, h5⟩
  refine Zq rfl (QW.call gofn96 (.cons (.tmp rfl) .nil) (by (apply of_ok <;> first | assumption | omega))) ?_
  refine Zq rfl (QW.assign (.tmp rfl)) (Zn (J.ret ?_))
  exact ⟨_, [], _, RetEv.one rfl (REv.tmp rfl lr), rfl, List.Perm.refl _, by
      rcases h5 with ⟨h1, rfl⟩ | ⟨h1, h2⟩
      · simp [floorC, h1, canonN, floorN, write_nonnan (integral_nonnan h1 .down)]
      · simp [floorC, h1, canonN, h2], rfl⟩
def nearN (n : Int) : Nat := FloatKind.f64.nearest n
def ofN (n : Int) : Nat := if n < -9007199254740992 ∨ 9007199254740992 < n then 0 else nearN n
def ofE (n : Int) : Int := if n < -9007199254740992 ∨ 9007199254740992 < n then 4 else 0
theorem of_test {n : Int} (h : -9223372036854775808 ≤ n ∧ n ≤ 9223372036854775807) :
    ((decide (9007199254740992 < if IntKind.i64.wrap (0 - n) > n then IntKind.i64.wrap (0 - n) else n)) || ((n == IntKind.i64.wrap (0 - n)) && (n != 0))) = decide (n < -9007199254740992 ∨ 9007199254740992 < n) := by
  by_cases hm : n = -9223372036854775808
  · subst hm; decide
  · rw [w64 (by omega)]
    by_cases h0 : n = 0 - n
    · have : n = 0 := by omega
      subst this; decide
    · have h1 : (n == 0 - n) = false := by simpa using h0
      rw [h1, Bool.false_and, Bool.or_false, decide_eq_decide]
      split <;> omega
theorem ofInt_ok (n : Int) (h : -9223372036854775808 ≤ n ∧ n ≤ 9223372036854775807) : Fn Tryz.prog 102 [.c (.int .i64 n)] (.tup [.c (.int .u64 (ofN n : Int)), .c (.int .i64 (ofE n))]) := by
  refine AC.of_J Tryz.func102 rfl Tryz.ntmps102 rfl fun w0 A0 => ?_
  refine Zs (Zq rfl (QW.assign .const) (Zq rfl (QW.assign .const) (Zn (J.seq (Zs (Zq rfl (QW.move (.tmp rfl)) (Zq rfl (QW.move (.tmp rfl)) (Zq rfl (QW.neg (.tmp rfl) rfl) (Zq rfl (QW.max2 (.tmp rfl) (.tmp rfl)) ?_)))))))))
  refine Zq rfl (QW.gtr (.tmp rfl) .const) (Zq rfl (QW.move (.tmp rfl)) (Zg rfl (fun hg => (QW.move (.tmp rfl))) (Zg rfl (fun hg => (QW.move (.tmp rfl))) (Zg rfl (fun hg => QW.neg (.when rfl hg) rfl) (Zg rfl (fun hg => (QW.eql (.when rfl hg) (.when rfl hg))) (Zg rfl (fun hg => (QW.move (.when rfl hg))) (JL.gg rfl rfl rfl rfl rfl (fun hg => (QW.move (.tmp rfl))) (JL.gg rfl rfl rfl rfl rfl (fun hg => (QW.neq (.when rfl hg) .const)) (Zg rfl (fun hg => (QW.pick_and2 hg (.when rfl hg) (.tmp rfl))) ?_)))))))))
  refine Zq rfl (QW.pick_or (.tmp rfl) (.tmp rfl)) (Zn ?_)
  refine J.cond (.tmp rfl) (fun c1 => ?_) (fun c1 => ?_)
  ·
    rw [of_test h] at c1; simp at c1
    refine Zs (Zq rfl (QW.assign .const) (Zq rfl (QW.assign .const) (Zn (J.ret (thenQ.r ?_)))))
    exact ⟨_, [], _, RetEv.two rfl (REv.tmp rfl lr) (REv.tmp rfl lr), rfl, List.Perm.refl _, by simp [ofN, ofE, c1], rfl⟩
  ·
    rw [of_test h] at c1; simp at c1
    refine Zk (Zs (Zq rfl (QW.move (.tmp rfl)) (Zq rfl (QW.conv_if us3 fl133 (.tmp rfl)) (Zq rfl (QW.ext (extBits _) (.tmp rfl)) (Zq rfl (QW.assign (.tmp rfl)) (Zq rfl (QW.assign .const) (Zn (J.ret ?_))))))))
    exact ⟨_, [], _, RetEv.two rfl (REv.tmp rfl lr) (REv.tmp rfl lr), rfl, List.Perm.refl _, by rw [ofN, ofE, if_neg (by omega), if_neg (by omega)]; rfl, rfl⟩
end Go.Proofs.YtjhonjdhanlbkaaGreat.J

/- Walks: the whole number that a number is. -/
namespace Go.Proofs.YtjhonjdhanlbkaaGreat.J
open Go Go.RowKit
set_option maxRecDepth 10000
set_option maxHeartbeats 4000000
theorem findTrunc : Extern.find Tryz.f147 = some (Extern.MathFloor.toIntegral "math.archTrunc" .zero) := by kernel_rfl
theorem extTrunc (b : Nat) (w : World) : (callFunc 147 #[flt b]).run Tryz.prog w = ((Extern.MathFloor.toIntegral "math.archTrunc" .zero #[flt b]).run Tryz.prog w).andThen fun v w => .ok (.value v) w :=
  callFunc_ext Tryz.func147 (by kernel_rfl) (by kernel_rfl) (by kernel_rfl) findTrunc _ _
theorem class_nonnan {b : Nat} (h : ¬ 4 ≤ classN b) : isNan b = false := by
  rw [class_ge] at h
  rw [isNan_eq]; exact decide_eq_false (by omega)
theorem abs_most {b : Nat} (hn : isNan b = false) : (ford (b % 2 ^ 63) 4845873199050653696 == some .gt) = decide (mostR < rung b) := by
  rw [ford_gt (by rw [isNan_abs]; exact hn) (by decide), sr_abs, show sr 4845873199050653696 = 4845873199050653696 by decide, decide_eq_decide]
  unfold mostR; omega
theorem mtrunc_ok (b : Nat) (hn : isNan b = false) : Fn Tryz.prog 130 [.c (flt b)] (.c (flt (truncN b))) := by
  refine AC.of_J Tryz.func130 rfl Tryz.ntmps130 rfl fun w0 A0 => ?_
  refine Zs (Zq rfl (QW.assign .const) (Zn (J.seq ?_)))
  refine J.cond .const (fun c1 => ?_) (fun c1 => absurd c1 (by decide))
  refine Zs (Zq rfl (QW.move (.tmp rfl)) (JL.arch extTrunc (.tmp rfl) rfl fun x4 h4 => ?_))
  obtain rfl : x4 = truncN b := by rcases h4 with ⟨_, h⟩ | ⟨h, _⟩; exact h; rw [hn] at h; cases h
  refine Zq rfl (QW.assign (.tmp rfl)) (Zn (J.ret (thenQ.r ?_)))
  exact ⟨_, [], _, RetEv.one rfl (REv.tmp rfl lr), rfl, List.Perm.refl _, rfl, rfl⟩
theorem int_ok (b : Nat) (hb : b < 2 ^ 64) : Fn Tryz.prog 100 [.c (.int .u64 (b : Int))] (.tup [.c (.int .i64 (intV b)), .c (.int .i64 (intE b))]) := by
  refine AC.of_J Tryz.func100 rfl Tryz.ntmps100 rfl fun w0 A0 => ?_
  refine Zs (Zq rfl (QW.assign .const) (Zq rfl (QW.assign .const) (Zn (Zs (Zq rfl (QW.move (.tmp rfl)) (Zq rfl (QW.ext (extFrom _) (.tmp rfl)) (Zq rfl (QW.assign (.tmp rfl)) (Zn (J.seq ?_)))))))))
  refine J.block (Zs (Zq rfl (QW.move (.tmp rfl)) (Zq rfl (QW.call gofn129 (.cons (.tmp rfl) .nil) (by (apply class_ok <;> first | assumption | omega))) ?_)))
  refine Zq rfl (QW.geq (.tmp rfl) .const) (Zq rfl (QW.move (.tmp rfl)) (Zg rfl (fun hg => (QW.move (.tmp rfl))) (Zg rfl (fun hg => (QW.move (.tmp rfl))) (Zg rfl (fun hg => QW.call gofn130 (.cons (.when rfl hg) .nil) (mtrunc_ok b (class_nonnan (by simp at hg; omega)))) ?_))))
  refine Zg rfl (fun hg => (QW.neq_f (.when rfl hg) (.when rfl hg))) (Zq rfl (QW.pick_or (.tmp rfl) (.tmp rfl)) (Zq rfl (QW.assign (.tmp rfl)) (Zn ?_)))
  refine J.cond (.tmp rfl) (fun c1 => ?_) (fun c1 => ?_)
  ·
    have hT : infR ≤ rung b ∨ ¬ isWhole b := by
      by_cases hf : rung b < infR
      · rw [trunc_whole hb hf] at c1
        have := class_fin.2 hf
        simp at c1
        rcases c1 with h | h
        · omega
        · exact .inr h
      · exact .inl (by omega)
    refine Zs (Zq rfl (QW.assign .const) (Zq rfl (QW.assign .const) (Zn (J.ret (blkQ.r (thenQ.r ?_))))))
    exact ⟨_, [], _, RetEv.two rfl (REv.tmp rfl lr) (REv.tmp rfl lr), rfl, List.Perm.refl _, by rw [(int_t hT).1, (int_t hT).2], rfl⟩
  ·
    have hc : ¬ 4 ≤ classN b := by intro h; rw [decide_eq_true (by omega), Bool.true_or] at c1; cases c1
    have hf : rung b < infR := by rw [class_ge] at hc; omega
    have hn := class_nonnan hc
    have hw : isWhole b := by
      rw [trunc_whole hb hf] at c1
      simp at c1
      exact c1.2
    refine Zs (Zq rfl (QW.move (.tmp rfl)) (Zq rfl (QW.call gofn131 (.cons (.tmp rfl) .nil) (by (apply abs_ok <;> first | assumption | omega))) ?_))
    refine Zq rfl (QW.gtr_f (.tmp rfl) .const) (Zq rfl (QW.assign (.tmp rfl)) (Zn ?_))
    refine J.cond (.tmp rfl) (fun c2 => ?_) (fun c2 => ?_)
    ·
      rw [abs_most hn] at c2; simp at c2
      refine Zs (Zq rfl (QW.assign .const) (Zq rfl (QW.assign .const) (Zn (J.ret (blkQ.r (thenQ.r ?_))))))
      exact ⟨_, [], _, RetEv.two rfl (REv.tmp rfl lr) (REv.tmp rfl lr), rfl, List.Perm.refl _, by rw [(int_r hf hw c2).1, (int_r hf hw c2).2], rfl⟩
    ·
      rw [abs_most hn] at c2; simp at c2
      have hK := sv_fits (s := sgn b) (small_whole c2)
      refine J.skip (blkQ.n (thenQ.n (Zs (Zq rfl (QW.move (.tmp rfl)) (Zq rfl (QW.conv_fi us133 iu3 (.tmp rfl) (trunc_int hf) hK) (Zq rfl (QW.assign (.tmp rfl)) (Zq rfl (QW.assign .const) (Zn (J.ret ?_)))))))))
      exact ⟨_, [], _, RetEv.two rfl (REv.tmp rfl lr) (REv.tmp rfl lr), rfl, List.Perm.refl _, by rw [(int_o hf hw c2).1, (int_o hf hw c2).2], rfl⟩
end Go.Proofs.YtjhonjdhanlbkaaGreat.J

/- What expressions come to, as plain data. -/
namespace Go.Proofs.YtjhonjdhanlbkaaGreat.J
open Go Go.RowKit
def V.tr (b : Bool) : V := .mk 1 (if b then 1 else 0) [] [] []
def V.nu (b : Nat) : V := .mk 2 b [] [] []
def V.tx (t : Str) : V := .mk 3 0 t [] []
def V.li (l : List V) : V := .mk 4 0 [] [] l
structure ScT where
  st : V
  ev : V
  it : V
def natD (n : Nat) : Str := if n < 10 then [UInt8.ofNat (48 + n)] else natD (n / 10) ++ [UInt8.ofNat (48 + n % 10)]
termination_by n
decreasing_by omega
def intD (n : Int) : Str := if n < 0 then 45 :: natD n.natAbs else natD n.natAbs
def arO (o : Int) (a b : Nat) : Nat := if o = 11 then arithN .add a b else if o = 12 then arithN .sub a b else if o = 13 then arithN .mul a b else arithN .quo a b
def madeE (v : V) : Except Int V := if v.err = 0 then .ok v else .error 84
def getE (v : V) (s : StT) : Except Int V := if (v.getv [s]).2 = 0 then .ok (v.getv [s]).1 else .error (v.getv [s]).2
def setE (v : V) (s : StT) (x : V) : Except Int V := if (v.setv [s] x).2 = 0 then .ok (v.setv [s] x).1 else .error 84
def oneE (o : Int) (t : Str) (a : V) : Except Int V :=
  if o = 8 then getE a ⟨true, t, 0⟩
  else if o = 10 then (if a.kind < 3 then .error 81 else .ok (.nu (ofN ((a.text.length : Int) + (a.items.length : Int)))))
  else if o = 15 then (if a.kind = 2 then .ok (.nu (floorC a.bits)) else .error 81)
  else if o = 20 then (if a.kind = 1 then .ok (.tr (a.bits == 0)) else .error 81)
  else if a.kind ≠ 2 then .error 81 else if intE a.bits ≠ 0 then .error 7 else .ok (.tx (intD (intV a.bits)))
def twoE (o : Int) (t : Str) (a b : V) : Except Int V :=
  if o = 9 then (if a.kind ≠ 4 ∨ b.kind ≠ 2 then .error 81 else if intE b.bits ≠ 0 then .error 82 else getE a ⟨false, [], intV b.bits⟩)
  else if o = 16 then .ok (.tr (a.ord b == 0))
  else if o = 17 then (if b.kind = a.kind then .ok (.tr (decide (a.ord b < 0))) else .error 81)
  else if o = 22 then (if a.kind ≠ 3 ∨ b.kind ≠ 3 then .error 81 else if 128 < a.text.length + b.text.length then .error 84 else .ok (.tx (a.text ++ b.text)))
  else if o = 24 then (if a.kind ≠ 4 then .error 81 else setE a ⟨false, [], a.items.length⟩ b)
  else if o = 25 then (if a.kind ≠ 5 then .error 81 else setE a ⟨true, t, 0⟩ b)
  else if a.kind ≠ 2 ∨ b.kind ≠ 2 then .error 81 else .ok (.nu (arO o a.bits b.bits))
def plainE (o : Int) (t : Str) (l : List V) : Except Int V :=
  if o = 23 then madeE (.li l) else
  match l with
  | [a] => oneE o t a
  | [a, b] => twoE o t a b
  | _ => .error 0
abbrev ER (α : Type) := Except Int (α × Int)
def truE (r : ER V) : ER Bool := match r with
  | .error e => .error e
  | .ok (v, f) => if v.kind = 1 then .ok (v.bits == 1, f) else .error 81
def mapE (g : V → Int → ER V) : List V → Int → ER (List V)
  | [], f => .ok ([], f)
  | x :: r, f => match g x f with
    | .error e => .error e
    | .ok (y, f1) => match mapE g r f1 with
      | .error e => .error e
      | .ok (l, f2) => .ok (y :: l, f2)
def filE (g : V → Int → ER Bool) : List V → Int → ER (List V)
  | [], f => .ok ([], f)
  | x :: r, f => match g x f with
    | .error e => .error e
    | .ok (b, f1) => match filE g r f1 with
      | .error e => .error e
      | .ok (l, f2) => .ok (if b then x :: l else l, f2)
def fndE (g : V → Int → ER Bool) : List V → Int → ER V
  | [], f => .error 71
  | x :: r, f => match g x f with
    | .error e => .error e
    | .ok (b, f1) => if b then .ok (x, f1) else fndE g r f1
def madeF (r : ER (List V)) : ER V := match r with
  | .error e => .error e
  | .ok (l, f) => match madeE (.li l) with
    | .error e => .error e
    | .ok v => .ok (v, f)
def overE (o : Int) (g : V → Int → ER V) (r : ER V) : ER V := match r with
  | .error e => .error e
  | .ok (v, f) => if v.kind ≠ 4 then .error 81
    else if o = 27 then madeF (mapE g v.items f)
    else if o = 28 then madeF (filE (fun x f => truE (g x f)) v.items f)
    else fndE (fun x f => truE (g x f)) v.items f
mutual
/-- An expression's value, and the fuel that is left; or the error. -/
def EX.ev : EX → ScT → Int → ER V
  | .mk o b t l, s, f =>
    if f < 1 then .error 83
    else if o = 0 then .ok (.nil, f - 1)
    else if o = 1 then .ok (.tr false, f - 1)
    else if o = 2 then .ok (.tr true, f - 1)
    else if o = 3 then .ok (.nu b, f - 1)
    else if o = 4 then .ok (.tx t, f - 1)
    else if o = 5 then .ok (s.st, f - 1)
    else if o = 6 then .ok (s.ev, f - 1)
    else if o = 7 then .ok (s.it, f - 1)
    else if o = 18 then EX.evAO false l s (f - 1)
    else if o = 19 then EX.evAO true l s (f - 1)
    else if o = 21 then EX.evIf l s (f - 1)
    else if o = 27 ∨ o = 28 ∨ o = 29 then EX.evOv o l s (f - 1)
    else match EX.evs l s (f - 1) with
      | .error e => .error e
      | .ok (vs, f1) => match plainE o t vs with
        | .error e => .error e
        | .ok v => .ok (v, f1)
def EX.evs : List EX → ScT → Int → ER (List V)
  | [], s, f => .ok ([], f)
  | x :: r, s, f => match x.ev s f with
    | .error e => .error e
    | .ok (v, f1) => match EX.evs r s f1 with
      | .error e => .error e
      | .ok (vs, f2) => .ok (v :: vs, f2)
def EX.evAO (k : Bool) : List EX → ScT → Int → ER V
  | x :: y :: _, s, f => match truE (x.ev s f) with
    | .error e => .error e
    | .ok (b1, f1) => if b1 = k then .ok (.tr k, f1) else match truE (y.ev s f1) with
      | .error e => .error e
      | .ok (b2, f2) => .ok (.tr b2, f2)
  | _, _, _ => .error 0
def EX.evIf : List EX → ScT → Int → ER V
  | x :: y :: z :: _, s, f => match truE (x.ev s f) with
    | .error e => .error e
    | .ok (b1, f1) => if b1 then y.ev s f1 else z.ev s f1
  | _, _, _ => .error 0
def EX.evOv (o : Int) : List EX → ScT → Int → ER V
  | x :: y :: _, s, f => overE o (fun it f => y.ev { s with it } f) (x.ev s f)
  | _, _, _ => .error 0
end
def runT (e : EX) (s : ScT) (f : Int) : V × Int × Int := match e.ev s f with
  | .error c => (.nil, 0, c)
  | .ok (v, f1) => (v, f1, 0)
def evalT (e : EX) (s : ScT) (f : Int) : V × Int × Int :=
  if e.err ≠ 0 then (.nil, 0, e.err) else if s.st.err ≠ 0 then (.nil, 0, s.st.err) else if s.ev.err ≠ 0 then (.nil, 0, s.ev.err) else if s.it.err ≠ 0 then (.nil, 0, s.it.err)
  else if f < 0 ∨ 4096 < f then (.nil, 0, 4) else runT e s f
end Go.Proofs.YtjhonjdhanlbkaaGreat.J

/- Walks: whole numbers compared; lists of them. -/
namespace Go.Proofs.YtjhonjdhanlbkaaGreat.J
open Go Go.RowKit
set_option maxRecDepth 10000
set_option maxHeartbeats 4000000
def eI64 : ETy := ⟨1, 8⟩
def intsAV (l : List Int) : List (List AV) := l.map fun n => [.c (.int .i64 n)]
theorem intsAV_length (l : List Int) : (intsAV l).length = l.length := by simp [intsAV]
theorem intsAV_getE {l : List Int} {i : Nat} (h : i < l.length) : (intsAV l)[i]? = some [.c (.int .i64 l[i])] := by simp [intsAV, h]
theorem fdiv2 {lo hi : Nat} : ((lo : Int) + (hi : Int)).fdiv (2 ^ (min (1 : Int).toNat IntKind.u64.bits)) = (((lo + hi) / 2 : Nat) : Int) := by
  rw [show (2 : Int) ^ (min (1 : Int).toNat IntKind.u64.bits) = 2 from rfl, Int.fdiv_eq_ediv_of_nonneg _ (by decide)]
  omega
theorem nanInt_ok (n : Int) : Fn Tryz.prog 143 [.c (.int .i64 n)] (.c (.bool false)) := by
  refine AC.of_J Tryz.func143 rfl Tryz.ntmps143 rfl fun w0 A0 => ?_
  exact Zs (Zq rfl (QW.assign .const) (Zn (Zs (Zq rfl (QW.move (.tmp rfl)) (Zq rfl (QW.move (.tmp rfl)) (Zq rfl (QW.neq (.tmp rfl) (.tmp rfl)) (Zq rfl (QW.assign (.tmp rfl)) (Zn (J.ret (Zr [] (RetEv.one rfl (REv.tmp rfl lr)) rfl ⟨ret_b (by simp), rfl⟩))))))))))
theorem cmpInt_ok (a b : Int) : Fn Tryz.prog 122 [.c (.int .i64 a), .c (.int .i64 b)] (.c (.int .i64 (if a < b then -1 else if b < a then 1 else 0))) := by
  refine AC.of_J Tryz.func122 rfl Tryz.ntmps122 rfl fun w0 A0 => ?_
  refine Zs (Zq rfl (QW.assign .const) (Zn (Zs (Zq rfl (QW.move (.tmp rfl)) (Zq rfl (QW.call gofn143 (.cons (.tmp rfl) .nil) (nanInt_ok _)) (Zq rfl (QW.assign (.tmp rfl)) (Zn (Zs (Zq rfl (QW.move (.tmp rfl)) ?_)))))))))
  refine Zq rfl (QW.call gofn143 (.cons (.tmp rfl) .nil) (nanInt_ok _)) (Zq rfl (QW.assign (.tmp rfl)) (Zn (J.seq (Zs (Zq rfl (QW.move (.tmp rfl)) (Zn ?_))))))
  refine J.cond (.tmp rfl) (fun c1 => absurd c1 (by simp)) (fun c1 => ?_)
  refine Zk (J.seq (Zs (Zq rfl (QW.move (.tmp rfl)) (Zn ?_))))
  refine J.cond (.tmp rfl) (fun c2 => absurd c2 (by simp)) (fun c2 => ?_)
  refine Zk (J.seq (Zs (Zq rfl (QW.move (.tmp rfl)) (Zq rfl (QW.move (.tmp rfl)) (Zq rfl (QW.lss (.tmp rfl) (.tmp rfl)) (Zn ?_))))))
  refine J.cond (.tmp rfl) (fun c3 => ?_) (fun c3 => ?_)
  · skip
    simp at c3
    exact Zs (Zq rfl (QW.assign .const) (Zn (J.ret (thenQ.r (Zr [] (RetEv.one rfl (REv.tmp rfl lr)) rfl ⟨by rw [if_pos c3], rfl⟩)))))
  simp at c3
  refine Zk (J.seq (Zs (Zq rfl (QW.move (.tmp rfl)) (Zq rfl (QW.move (.tmp rfl)) (Zq rfl (QW.gtr (.tmp rfl) (.tmp rfl)) (Zn ?_))))))
  refine J.cond (.tmp rfl) (fun c4 => ?_) (fun c4 => ?_)
  · skip
    simp at c4
    exact Zs (Zq rfl (QW.assign .const) (Zn (J.ret (thenQ.r (Zr [] (RetEv.one rfl (REv.tmp rfl lr)) rfl ⟨by rw [if_neg (by omega), if_pos (by omega)], rfl⟩)))))
  simp at c4
  exact Zk (Zs (Zq rfl (QW.assign .const) (Zn (J.ret (Zr [] (RetEv.one rfl (REv.tmp rfl lr)) rfl ⟨by rw [if_neg (by omega), if_neg (by omega)], rfl⟩)))))
end Go.Proofs.YtjhonjdhanlbkaaGreat.J

/- Walks: steps into values: what is found, what is got. -/
namespace Go.Proofs.YtjhonjdhanlbkaaGreat.J
open Go Go.RowKit
set_option maxRecDepth 10000
set_option maxHeartbeats 4000000
theorem nanStr_ok (s : Str) : Fn Tryz.prog 154 [.c (str s)] (.c (.bool false)) := by
  refine AC.of_J Tryz.func154 rfl Tryz.ntmps154 rfl fun w0 A0 => ?_
  exact Zs (Zq rfl (QW.assign .const) (Zn (Zs (Zq rfl (QW.move (.tmp rfl)) (Zq rfl (QW.move (.tmp rfl)) (Zq rfl (QW.neq_s (.tmp rfl) (.tmp rfl)) (Zq rfl (QW.assign (.tmp rfl)) (Zn (J.ret (Zr [] (RetEv.one rfl (REv.tmp rfl lr)) rfl ⟨ret_b (by simp), rfl⟩))))))))))
theorem cnanStr_ok (s : Str) : Fn Tryz.prog 145 [.c (str s)] (.c (.bool false)) := by
  refine AC.of_J Tryz.func145 rfl Tryz.ntmps145 rfl fun w0 A0 => ?_
  exact Zs (Zq rfl (QW.assign .const) (Zn (Zs (Zq rfl (QW.move (.tmp rfl)) (Zq rfl (QW.move (.tmp rfl)) (Zq rfl (QW.neq_s (.tmp rfl) (.tmp rfl)) (Zq rfl (QW.assign (.tmp rfl)) (Zn (J.ret (Zr [] (RetEv.one rfl (REv.tmp rfl lr)) rfl ⟨ret_b (by simp), rfl⟩))))))))))
theorem lessStr_ok (a b : Str) : Fn Tryz.prog 153 [.c (str a), .c (str b)] (.c (.bool (Op.bytesLess a b))) := by
  refine AC.of_J Tryz.func153 rfl Tryz.ntmps153 rfl fun w0 A0 => ?_
  refine Zs (Zq rfl (QW.assign .const) (Zn (Zs (Zq rfl (QW.move (.tmp rfl)) (Zq rfl (QW.call gofn145 (.cons (.tmp rfl) .nil) (cnanStr_ok _)) (Zq rfl (QW.move (.tmp rfl)) (Zg rfl (fun hg => (QW.move (.tmp rfl))) (Zg rfl (fun hg => (QW.call gofn145 (.cons (.when rfl hg) .nil) (cnanStr_ok _))) (Zg rfl (fun hg => (QW.not (.when rfl hg))) ?_)))))))))
  exact Zq rfl (QW.pick_and (.tmp rfl) (.tmp rfl)) (Zq rfl (QW.move (.tmp rfl)) (Zg rfl (fun hg => (QW.move (.tmp rfl))) (Zg rfl (fun hg => (QW.move (.tmp rfl))) (Zg rfl (fun hg => (QW.lss_s (.when rfl hg) (.when rfl hg))) (Zq rfl (QW.pick_or (.tmp rfl) (.tmp rfl)) (Zq rfl (QW.assign (.tmp rfl)) (Zn (J.ret (Zr [] (RetEv.one rfl (REv.tmp rfl lr)) rfl ⟨ret_b (by simp), rfl⟩)))))))))
theorem foundStr {l : List Str} {k : Nat} {s : Str} : (decide (l[k]? = some s)) = (decide ((k : Int) < (l.length : Int)) && ((l.getD k []) == s || false && false)) := by
  by_cases hk : k < l.length
  · rw [Bool.eq_iff_iff]; simp [hk, List.getD]
  · rw [Bool.eq_iff_iff]; simp [hk]
theorem bs_ok {fr c : Bool} {l : List Str} {s : Str} {k : Nat} (hl : l.length ≤ 1000) (hk : k ≤ l.length) (h1 : ∀ i (h : i < l.length), i < k → Op.bytesLess l[i] s = true) (h2 : ∀ i (h : i < l.length), k ≤ i → Op.bytesLess l[i] s = false) : Fn Tryz.prog 149 [.sl fr c eStr (keysAV l), .c (str s)] (.tup [.c (.int .i64 (k : Int)), .c (.bool (decide (l[k]? = some s)))]) := by
  refine AC.of_J Tryz.func149 rfl Tryz.ntmps149 rfl fun w0 A0 => ?_
  refine Zs (Zq rfl (QW.assign .const) (Zq rfl (QW.assign .const) (Zn (Zs (Zq rfl (QW.move (.tmp rfl)) (Zq rfl (QW.len_slE sl26 (.tmp rfl) (keysAV_length _)) (Zq rfl (QW.assign (.tmp rfl)) (Zn (Zs ?_)))))))))
  refine Zq rfl (QW.move (.tmp rfl)) (Zq rfl (QW.assign .const) (Zq rfl (QW.assign (.tmp rfl)) (Zn (J.seq (J.block (J.loopK (ι := Nat × Nat) [0, 1, 4, 5, 6] (fun ⟨lo, hi⟩ => [(7, .c (.int .i64 (lo : Int))), (8, .c (.int .i64 (hi : Int)))]) (fun _ oo => oo) (fun ⟨lo, hi⟩ => lo ≤ k ∧ k ≤ hi ∧ hi ≤ l.length) (fun ⟨lo, hi⟩ => hi - lo) ⟨0, l.length⟩ (⟨Nat.zero_le _, hk, Nat.le_refl _⟩) (Wk.re (.cons rfl lr (.cons rfl lr (.cons rfl lr (.cons rfl lr (.cons rfl lr (.cons rfl lr (.cons rfl lr .nil))))))) (Reown.refl _) (fun _ h => by first | exact h | simp [h])) ?_))))))
  intro ⟨lo, hi⟩ ⟨ha, hb, hc⟩
  refine J.conv (by (try simp only [nl, stepsO, valO, nthO, curO, mrg, AV.cellsOf, splice_zero, splice_succ, Nat.reduceAdd]); rfl) ?_
  refine J.seq (Zs (Zq rfl (QW.move (.tmp rfl)) (Zq rfl (QW.move (.tmp rfl)) (Zq rfl (QW.lss (.tmp rfl) (.tmp rfl)) (Zn ?_)))))
  refine J.cond (.tmp rfl) (fun c1 => ?_) (fun c1 => ?_)
  · skip
    have hlt : lo < hi := by simpa using c1
    refine Zk (J.block (Zs (Zq rfl (QW.move (.tmp rfl)) (Zq rfl (QW.move (.tmp rfl)) (Zq rfl (QW.add (.tmp rfl) (.tmp rfl) (w64n rfl (by omega))) (Zq rfl (QW.conv_int us3 iu159 (.tmp rfl) (wu64 (by omega))) (Zq rfl (QW.shr (.tmp rfl) .const (by decide) fdiv2) ?_)))))))
    refine Zq rfl (QW.conv_int us159 iu3 (.tmp rfl) (w64n rfl (by omega))) (Zq rfl (QW.assign (.tmp rfl)) (Zn (Zs (Zq rfl (QW.move (.tmp rfl)) (Zq rfl (QW.move (.tmp rfl)) (Zq rfl (QW.index_sl sl26 ty9 rfl (.tmp rfl) (.tmp rfl) rfl (by exact keysAV_getE (ks := l) (i := (lo + hi) / 2) (by omega))) ?_))))))
    refine Zq rfl (QW.load_ref1 ty9 (.tmp rfl) rfl) (Zq rfl (QW.move (.tmp rfl)) (Zq rfl (QW.call gofn153 (.cons (.tmp rfl) (.cons (.tmp rfl) .nil)) (lessStr_ok _ _)) (Zn ?_)))
    refine J.cond (.tmp rfl) (fun c2 => ?_) (fun c2 => ?_)
    · skip
      have hm : Op.bytesLess (l[(lo + hi) / 2]'(by omega)) s = true := c2
      refine J.region_lit (Zq rfl (QW.move (.tmp rfl)) (Zq rfl (QW.add (.tmp rfl) .const (w64 (by omega))) (Zq rfl (QW.assign (.tmp rfl)) (JL.nil (blkQ.n (thenQ.n ?_))))))
      exact ⟨⟨(lo + hi) / 2 + 1, hi⟩, ⟨Nat.lt_of_not_le fun h => absurd (h2 _ (by omega) h) (by rw [hm]; decide), hb, hc⟩, by show hi - ((lo + hi) / 2 + 1) < hi - lo; omega, Wk.re (.cons rfl lr (.cons rfl lr (.cons rfl lr (.cons rfl lr (.cons rfl lr (.cons rfl lr (.cons rfl lr .nil))))))) (Reown.refl _) (fun _ h => by first | exact h | simp [h])⟩
    have hm : Op.bytesLess (l[(lo + hi) / 2]'(by omega)) s = false := c2
    refine J.region_lit (Zq rfl (QW.move (.tmp rfl)) (Zq rfl (QW.assign (.tmp rfl)) (JL.nil (blkQ.n (thenQ.n ?_)))))
    exact ⟨⟨lo, (lo + hi) / 2⟩, ⟨ha, Nat.le_of_not_lt fun h => absurd (h1 _ (by omega) h) (by rw [hm]; decide), by omega⟩, by show (lo + hi) / 2 - lo < hi - lo; omega, Wk.re (.cons rfl lr (.cons rfl lr (.cons rfl lr (.cons rfl lr (.cons rfl lr (.cons rfl lr (.cons rfl lr .nil))))))) (Reown.refl _) (fun _ h => by first | exact h | simp [h])⟩
  have hge : hi ≤ lo := by simpa using c1
  refine J.exit (thenQ.x (thenQ.x (blkQ.hit (thenQ.n (Zs (Zq rfl (QW.move (.tmp rfl)) (Zq rfl (QW.move (.tmp rfl)) (Zq rfl (QW.move (.tmp rfl)) (Zq rfl (QW.lss (.tmp rfl) (.tmp rfl)) ?_)))))))))
  refine Zq rfl (QW.move (.tmp rfl)) (Zg rfl (fun hg => (QW.move (.tmp rfl))) (Zg rfl (fun hg => (QW.move (.tmp rfl))) (Zg rfl (fun hg => (QW.index_sl sl26 ty9 rfl (.when rfl hg) (.when rfl hg) rfl (by exact keysAV_getD (by simp at hg; omega)))) ?_)))
  refine Zg rfl (fun hg => (QW.load_ref1 ty9 (.when rfl hg) rfl)) (Zg rfl (fun hg => (QW.move (.tmp rfl))) (Zg rfl (fun hg => (QW.eql_s (.when rfl hg) (.when rfl hg))) (Zg rfl (fun hg => (QW.move (.when rfl hg))) (JL.gg rfl rfl rfl rfl rfl (fun hg => (QW.move (.tmp rfl))) (JL.gg rfl rfl rfl rfl rfl (fun hg => (QW.move (.tmp rfl))) (JL.gg rfl rfl rfl rfl rfl (fun hg => (QW.index_sl sl26 ty9 rfl (.when rfl hg) (.when rfl hg) rfl (by exact keysAV_getD (by simp at hg; omega)))) ?_))))))
  refine JL.gg rfl rfl rfl rfl rfl (fun hg => (QW.load_ref1 ty9 (.when rfl hg) rfl)) (JL.gg rfl rfl rfl rfl rfl (fun hg => (QW.call gofn154 (.cons (.when rfl hg) .nil) (nanStr_ok _))) (JL.gg rfl rfl rfl rfl rfl (fun hg => (QW.move (.when rfl hg))) (JL.gg rfl rfl rfl rfl rfl (fun hg => (QW.move (.tmp rfl))) (JL.gg rfl rfl rfl rfl rfl (fun hg => (QW.call gofn154 (.cons (.when rfl hg) .nil) (nanStr_ok _))) (JL.gg rfl rfl rfl rfl rfl (fun hg => (QW.pick_and2 hg (.when rfl hg) (.tmp rfl))) (Zg rfl (fun hg => (QW.pick_or2 hg (.when rfl hg) (.tmp rfl))) (Zq rfl (QW.pick_and (.tmp rfl) (.tmp rfl)) (Zq rfl (QW.assign (.tmp rfl)) (Zq rfl (QW.assign (.tmp rfl)) ?_)))))))))
  refine Zn (J.ret ?_)
  obtain rfl : lo = k := by omega
  exact Zr [] (RetEv.two rfl (REv.tmp rfl lr) (REv.tmp rfl lr)) rfl ⟨by rw [foundStr], rfl⟩
def fndAV (v : V) (s : StT) : AV := .tup [.c (.int .i64 ((v.fnd s).1 : Int)), .c (.int .i64 (v.fnd s).2)]
theorem fndAV_of {v : V} {s : StT} {i : Nat} {e : Int} (h : v.fnd s = (i, e)) : fndAV v s = .tup [.c (.int .i64 (i : Int)), .c (.int .i64 e)] := by rw [fndAV, h]
def plcAV (v : V) (s : StT) : AV := .tup [.c (.int .i64 (if (v.fnd s).2 = 0 then ((v.fnd s).1 : Int) else -1)), .c (.int .i64 (v.fnd s).2)]
theorem plcAV_of {v : V} {s : StT} {i : Nat} (h : v.fnd s = (i, 0)) : plcAV v s = .tup [.c (.int .i64 (i : Int)), .c (.int .i64 0)] := by rw [plcAV, h]; rfl
theorem plcAV_no {v : V} {s : StT} {i : Nat} {e : Int} (h : v.fnd s = (i, e)) (he : e ≠ 0) : plcAV v s = .tup [.c (.int .i64 (-1)), .c (.int .i64 e)] := by rw [plcAV, h]; simp [he]
theorem find_ok {fr : Bool} {v : V} {s : StT} {ys zs : List AV} (hv : Vc fr v ys) (hs : Sc s zs) (hp : partOk v = true) (hsw : s.wf) : Fn Tryz.prog 133 [.agg ys, .agg zs] (fndAV v s) := by
  obtain ⟨k, b, t, ks, is⟩ := v
  subst hv
  obtain ⟨sk, key, ix⟩ := s
  subst hs
  obtain ⟨l1, l2⟩ := partOk_len hp
  have hsi := hsw.i
  simp only [V.items, V.keys] at l1 l2 hsi
  refine AC.of_J Tryz.func133 rfl Tryz.ntmps133 rfl fun w0 A0 => ?_
  refine Zs (JL.box_agg (.tmp rfl) rfl fun b2 => JL.box_agg (.tmp rfl) rfl fun b3 => Zq rfl (QW.assign .const) (Zq rfl (QW.assign .const) (Zn (J.seq (J.block (J.seq (Zs ?_)))))))
  refine Zq rfl (QW.field_ptr fo120_0 (.tmp rfl) rfl) (Zq rfl (QW.load_box1 0 ty4 (.tmp rfl) rfl rfl) (Zq rfl (QW.move (.tmp rfl)) (Zg rfl (fun hg => (QW.field_ptr fo29_0 (.tmp rfl) rfl)) (Zg rfl (fun hg => (QW.load_box1 1 ty3 (.when rfl hg) rfl rfl)) (Zg rfl (fun hg => (QW.neq (.when rfl hg) .const)) (Zq rfl (QW.pick_and (.tmp rfl) (.tmp rfl)) (Zq rfl (QW.assign (.tmp rfl)) (Zn ?_))))))))
  refine J.cond (.tmp rfl) (fun c1 => ?_) (fun c1 => ?_)
  · skip
    skip
    refine Zk ?_
    refine J.cond (.tmp rfl) (fun c2 => ?_) (fun c2 => absurd c2 (by rw [c1]; decide))
    exact Zs (Zq rfl (QW.assign .const) (Zq rfl (QW.assign .const) (Zn (J.ret (blkQ.r (thenQ.r (Zr [.k, .k] (RetEv.two rfl (REv.tmp rfl lr) (REv.tmp rfl lr)) rfl ⟨congrArg Res.ret (fndAV_of (i := 0) (e := 81) (by simp at c1; obtain ⟨rfl, h5⟩ := c1; simp [V.fnd, V.kind, h5])).symm, rfl⟩)))))))
  skip
  refine J.region_lit (Zq rfl (QW.field_ptr fo120_0 (.tmp rfl) rfl) (Zq rfl (QW.load_box1 0 ty4 (.tmp rfl) rfl rfl) (Zq rfl (QW.not (.tmp rfl)) (Zq rfl (QW.move (.tmp rfl)) (Zg rfl (fun hg => (QW.field_ptr fo29_0 (.tmp rfl) rfl)) (Zg rfl (fun hg => (QW.load_box1 1 ty3 (.when rfl hg) rfl rfl)) (Zg rfl (fun hg => (QW.neq (.when rfl hg) .const)) (Zq rfl (QW.pick_and (.tmp rfl) (.tmp rfl)) (Zq rfl (QW.assign (.tmp rfl)) ?_)))))))))
  refine Zn ?_
  refine J.cond (.tmp rfl) (fun c2 => ?_) (fun c2 => ?_)
  · skip
    skip
    exact Zs (Zq rfl (QW.assign .const) (Zq rfl (QW.assign .const) (Zn (J.ret (blkQ.r (thenQ.r (Zr [.k, .k] (RetEv.two rfl (REv.tmp rfl lr) (REv.tmp rfl lr)) rfl ⟨congrArg Res.ret (fndAV_of (i := 0) (e := 81) (by simp at c1 c2; obtain ⟨rfl, h5⟩ := c2; simp [V.fnd, V.kind, h5])).symm, rfl⟩)))))))
  skip
  refine Zs (Zq rfl (QW.field_ptr fo120_0 (.tmp rfl) rfl) (Zq rfl (QW.load_box1 0 ty4 (.tmp rfl) rfl rfl) (Zq rfl (QW.assign (.tmp rfl)) (Zn ?_))))
  refine J.cond (.tmp rfl) (fun c3 => ?_) (fun c3 => ?_)
  · skip
    simp at c1 c2
    subst c3
    simp at c1
    subst c1
    have hsrt : Sorted ks := keysOk_sorted (partOk_rec hp rfl).2
    refine Zs (Zq rfl (QW.field_ptr fo29_3 (.tmp rfl) rfl) (Zq rfl (QW.load_box1 1 ty26 (.tmp rfl) rfl rfl) (Zq rfl (QW.field_ptr fo120_1 (.tmp rfl) rfl) (Zq rfl (QW.load_box1 0 ty9 (.tmp rfl) rfl rfl) (Zq rfl (QW.call gofn149 (.cons (.tmp rfl) (.cons (.tmp rfl) .nil)) (bs_ok (k := low ks key) (by omega) (low_le _ _) (fun i h hi => low_lt h hi) (fun i h hi => low_ge hsrt h hi))) (Zq rfl (QW.move (.tmp rfl)) (Zq rfl (QW.extract (.tmp rfl) rfl) (Zq rfl (QW.extract (.tmp rfl) rfl) (Zq rfl (QW.assign (.tmp rfl)) ?_)))))))))
    refine Zq rfl (QW.assign (.tmp rfl)) (Zn (J.seq (Zs (Zq rfl (QW.move (.tmp rfl)) (Zq rfl (QW.not (.tmp rfl)) (Zn ?_))))))
    refine J.cond (.tmp rfl) (fun c4 => ?_) (fun c4 => ?_)
    · skip
      skip
      exact Zs (Zq rfl (QW.move (.tmp rfl)) (Zq rfl (QW.assign (.tmp rfl)) (Zq rfl (QW.assign .const) (Zn (J.ret (thenQ.r (blkQ.r (thenQ.r (Zr [.k, .k] (RetEv.two rfl (REv.tmp rfl lr) (REv.tmp rfl lr)) rfl ⟨congrArg Res.ret (fndAV_of (i := low ks key) (e := 71) (by simp at c4; simp [V.fnd, V.kind, V.keys, c4])).symm, rfl⟩)))))))))
    skip
    exact Zk (Zs (Zq rfl (QW.move (.tmp rfl)) (Zq rfl (QW.assign (.tmp rfl)) (Zq rfl (QW.assign .const) (Zn (J.ret (blkQ.r (thenQ.r (Zr [.k, .k] (RetEv.two rfl (REv.tmp rfl lr) (REv.tmp rfl lr)) rfl ⟨congrArg Res.ret (fndAV_of (i := low ks key) (e := 0) (by simp at c4; simp [V.fnd, V.kind, V.keys, c4])).symm, rfl⟩)))))))))
  simp at c1 c2
  subst c3
  simp at c2
  subst c2
  refine Zs (Zq rfl (QW.field_ptr fo120_2 (.tmp rfl) rfl) (Zq rfl (QW.load_box1 0 ty3 (.tmp rfl) rfl rfl) (Zq rfl (QW.lss (.tmp rfl) .const) (Zq rfl (QW.move (.tmp rfl)) (Zg rfl (fun hg => (QW.field_ptr fo120_2 (.tmp rfl) rfl)) (Zg rfl (fun hg => (QW.load_box1 0 ty3 (.when rfl hg) rfl rfl)) (Zg rfl (fun hg => (QW.field_ptr fo29_4 (.tmp rfl) rfl)) (Zg rfl (fun hg => (QW.load_box1 1 ty27 (.when rfl hg) rfl rfl)) (Zg rfl (fun hg => (QW.len_slE sl27 (.when rfl hg) wl)) ?_)))))))))
  refine Zg rfl (fun hg => (QW.geq (.when rfl hg) (.when rfl hg))) (Zq rfl (QW.pick_or (.tmp rfl) (.tmp rfl)) (Zq rfl (QW.assign (.tmp rfl)) (Zn ?_)))
  refine J.cond (.tmp rfl) (fun c4 => ?_) (fun c4 => ?_)
  · skip
    skip
    exact Zs (Zq rfl (QW.assign .const) (Zq rfl (QW.assign .const) (Zn (J.ret (blkQ.r (thenQ.r (Zr [.k, .k] (RetEv.two rfl (REv.tmp rfl lr) (REv.tmp rfl lr)) rfl ⟨congrArg Res.ret (fndAV_of (i := 0) (e := 82) (by unfold V.fnd; rw [if_neg (by simp), if_pos (show (V.mk 4 b t ks is).kind = 4 from rfl), if_pos (by simpa [V.items] using c4)])).symm, rfl⟩)))))))
  skip
  refine J.skip (blkQ.n (thenQ.n (Zs (Zq rfl (QW.field_ptr fo120_2 (.tmp rfl) rfl) (Zq rfl (QW.load_box1 0 ty3 (.tmp rfl) rfl rfl) (Zq rfl (QW.assign (.tmp rfl)) (Zq rfl (QW.assign .const) (Zn (J.ret ?_)))))))))
  simp at c4
  obtain ⟨m, rfl⟩ := Int.eq_ofNat_of_zero_le (a := ix) (by omega)
  exact Zr [.k, .k] (RetEv.two rfl (REv.tmp rfl lr) (REv.tmp rfl lr)) rfl ⟨congrArg Res.ret (fndAV_of (i := m) (e := 0) (by simp [V.fnd, V.kind, V.items]; omega)).symm, rfl⟩
theorem place_ok {fr : Bool} {v : V} {s : StT} {ys zs : List AV} (hv : Vc fr v ys) (hs : Sc s zs) (hp : partOk v = true) (hsw : s.wf) : Fn Tryz.prog 139 [.agg ys, .agg zs] (plcAV v s) := by
  obtain ⟨k, b, t, ks, is⟩ := v
  subst hv
  obtain ⟨sk, key, ix⟩ := s
  subst hs
  obtain ⟨l1, l2⟩ := partOk_len hp
  have hsi := hsw.i
  simp only [V.items, V.keys] at l1 l2 hsi
  refine AC.of_J Tryz.func139 rfl Tryz.ntmps139 rfl fun w0 A0 => ?_
  refine Zs (JL.box_agg (.tmp rfl) rfl fun b2 => JL.box_agg (.tmp rfl) rfl fun b3 => Zq rfl (QW.assign .const) (Zq rfl (QW.assign .const) (Zn (J.seq (Zs (Zq rfl (QW.field_ptr fo120_0 (.tmp rfl) rfl) (Zq rfl (QW.load_box1 0 ty4 (.tmp rfl) rfl rfl) ?_)))))))
  refine Zq rfl (QW.not (.tmp rfl)) (Zn ?_)
  refine J.cond (.tmp rfl) (fun c1 => ?_) (fun c1 => ?_)
  · skip
    simp at c1
    subst c1
    refine J.seq (J.block (Zs (Zq rfl (QW.field_ptr fo29_0 (.tmp rfl) rfl) (Zq rfl (QW.load_box1 1 ty3 (.tmp rfl) rfl rfl) (Zq rfl (QW.neq (.tmp rfl) .const) (Zq rfl (QW.assign (.tmp rfl)) (Zn ?_)))))))
    refine J.cond (.tmp rfl) (fun c2 => ?_) (fun c2 => ?_)
    · skip
      skip
      exact Zs (Zq rfl (QW.assign .const) (Zq rfl (QW.assign .const) (Zn (J.ret (blkQ.r (thenQ.r (thenQ.r (Zr [.k, .k] (RetEv.two rfl (REv.tmp rfl lr) (REv.tmp rfl lr)) rfl ⟨congrArg Res.ret (plcAV_no (i := 0) (e := 81) (by simp at c2; simp [V.fnd, V.kind, c2]) (by decide)).symm, rfl⟩))))))))
    simp at c2
    subst c2
    refine Zs (Zq rfl (QW.field_ptr fo120_2 (.tmp rfl) rfl) (Zq rfl (QW.load_box1 0 ty3 (.tmp rfl) rfl rfl) (Zq rfl (QW.lss (.tmp rfl) .const) (Zq rfl (QW.move (.tmp rfl)) (Zg rfl (fun hg => (QW.field_ptr fo120_2 (.tmp rfl) rfl)) (Zg rfl (fun hg => (QW.load_box1 0 ty3 (.when rfl hg) rfl rfl)) (Zg rfl (fun hg => (QW.field_ptr fo29_4 (.tmp rfl) rfl)) (Zg rfl (fun hg => (QW.load_box1 1 ty27 (.when rfl hg) rfl rfl)) (Zg rfl (fun hg => (QW.len_slE sl27 (.when rfl hg) wl)) ?_)))))))))
    refine Zg rfl (fun hg => (QW.geq (.when rfl hg) (.when rfl hg))) (Zq rfl (QW.pick_or (.tmp rfl) (.tmp rfl)) (Zq rfl (QW.assign (.tmp rfl)) (Zn ?_)))
    refine J.cond (.tmp rfl) (fun c3 => ?_) (fun c3 => ?_)
    · skip
      skip
      exact Zs (Zq rfl (QW.assign .const) (Zq rfl (QW.assign .const) (Zn (J.ret (blkQ.r (thenQ.r (thenQ.r (Zr [.k, .k] (RetEv.two rfl (REv.tmp rfl lr) (REv.tmp rfl lr)) rfl ⟨congrArg Res.ret (plcAV_no (i := 0) (e := 82) (by unfold V.fnd; rw [if_neg (by simp), if_pos (show (V.mk 4 b t ks is).kind = 4 from rfl), if_pos (by simpa [V.items] using c3)]) (by decide)).symm, rfl⟩))))))))
    skip
    refine J.skip (blkQ.n (thenQ.n (Zs (Zq rfl (QW.field_ptr fo120_2 (.tmp rfl) rfl) (Zq rfl (QW.load_box1 0 ty3 (.tmp rfl) rfl rfl) (Zq rfl (QW.assign (.tmp rfl)) (Zq rfl (QW.assign .const) (Zn (J.ret ?_)))))))))
    refine thenQ.r ?_
    simp at c3
    obtain ⟨m, rfl⟩ := Int.eq_ofNat_of_zero_le (a := ix) (by omega)
    exact Zr [.k, .k] (RetEv.two rfl (REv.tmp rfl lr) (REv.tmp rfl lr)) rfl ⟨congrArg Res.ret (plcAV_of (i := m) (by simp [V.fnd, V.kind, V.items]; omega)).symm, rfl⟩
  simp at c1
  subst c1
  refine Zk (J.seq (Zs (Zq rfl (QW.field_ptr fo29_0 (.tmp rfl) rfl) (Zq rfl (QW.load_box1 1 ty3 (.tmp rfl) rfl rfl) (Zq rfl (QW.neq (.tmp rfl) .const) (Zn ?_))))))
  refine J.cond (.tmp rfl) (fun c2 => ?_) (fun c2 => ?_)
  · skip
    skip
    exact Zs (Zq rfl (QW.assign .const) (Zq rfl (QW.assign .const) (Zn (J.ret (thenQ.r (Zr [.k, .k] (RetEv.two rfl (REv.tmp rfl lr) (REv.tmp rfl lr)) rfl ⟨congrArg Res.ret (plcAV_no (i := 0) (e := 81) (by simp at c2; simp [V.fnd, V.kind, c2]) (by decide)).symm, rfl⟩))))))
  simp at c2
  subst c2
  have hsrt : Sorted ks := keysOk_sorted (partOk_rec hp rfl).2
  refine Zk (J.seq (Zs (Zq rfl (QW.assign .const) (Zn (J.block (J.loopK (ι := Nat) [2, 3] (fun j => [(6, .c (.int .i64 (j : Int)))]) (fun _ oo => oo) (fun j => j ≤ ks.length ∧ ∀ i (h : i < ks.length), i < j → ks[i] ≠ key) (fun j => ks.length - j) 0 (⟨Nat.zero_le _, fun i _ h => absurd h (Nat.not_lt_zero i)⟩) (Wk.re (.cons rfl lr (.cons rfl lr (.cons rfl lr .nil))) (Reown.refl _) (fun _ h => by first | exact h | simp [h])) ?_))))))
  intro j ⟨hj, hno⟩
  refine J.conv (by (try simp only [nl, stepsO, valO, nthO, curO, mrg, AV.cellsOf, splice_zero, splice_succ, Nat.reduceAdd]); rfl) ?_
  refine J.seq (Zs (Zq rfl (QW.move (.tmp rfl)) (Zq rfl (QW.field_ptr fo29_3 (.tmp rfl) rfl) (Zq rfl (QW.load_box1 1 ty26 (.tmp rfl) rfl rfl) (Zq rfl (QW.len_slE sl26 (.tmp rfl) (keysAV_length _)) (Zq rfl (QW.lss (.tmp rfl) (.tmp rfl)) (Zn ?_)))))))
  refine J.cond (.tmp rfl) (fun c3 => ?_) (fun c3 => ?_)
  · skip
    have hlt : j < ks.length := by simpa using c3
    refine Zk (J.seq (J.block (J.seq (J.region_tailK 7 mixed (by kernel_rfl) (by kernel_rfl) (by kernel_rfl) rfl ?_))))
    refine .cons [] rfl rfl rfl (.q rfl (QW.field_ptr fo29_3 (.tmp rfl) rfl)) ?_
    refine .cons [38] rfl rfl rfl (.q rfl (QW.load_box1 1 ty26 (.tmp rfl) rfl rfl)) ?_
    refine .cons [] rfl rfl rfl (.q rfl (QW.move (.tmp rfl))) ?_
    refine .cons [39, 40] rfl rfl rfl (.q rfl (QW.index_sl sl26 ty9 rfl (.tmp rfl) (.tmp rfl) rfl (by exact keysAV_getE hlt))) ?_
    refine .cons [41] rfl rfl rfl (.q rfl (QW.load_ref1 ty9 (.tmp rfl) rfl)) ?_
    refine .cons [] rfl rfl rfl (.q rfl (QW.field_ptr fo120_1 (.tmp rfl) rfl)) ?_
    refine .cons [43] rfl rfl rfl (.q rfl (QW.load_box1 0 ty9 (.tmp rfl) rfl rfl)) ?_
    refine .nil ?_
    refine Zq rfl (QW.eql_s (.tmp rfl) (.tmp rfl)) (Zn ?_)
    refine J.cond (.tmp rfl) (fun c4 => ?_) (fun c4 => ?_)
    · skip
      skip
      refine Zs (Zq rfl (QW.move (.tmp rfl)) (Zq rfl (QW.assign (.tmp rfl)) (Zq rfl (QW.assign .const) (Zn (J.ret (blkQ.r (thenQ.r (thenQ.r (blkQ.r ?_)))))))))
      refine thenQ.r ?_
      simp at c4
      have hlw := low_eq hsrt hlt c4
      exact Zr [.k, .k] (RetEv.two rfl (REv.tmp rfl lr) (REv.tmp rfl lr)) rfl ⟨congrArg Res.ret (plcAV_of (i := j) (by simp [V.fnd, V.kind, V.keys, hlw, hlt, c4])).symm, rfl⟩
    skip
    refine J.skip (blkQ.n (thenQ.n (J.region_lit (Zq rfl (QW.move (.tmp rfl)) (Zq rfl (QW.add (.tmp rfl) .const (w64 (by omega))) (Zq rfl (QW.assign (.tmp rfl)) (Zn ?_)))))))
    exact ⟨j + 1, ⟨hlt, fun i h hi => (by by_cases he : i = j; (subst he; simpa using c4); exact hno i h (by omega))⟩, by omega, Wk.re (.cons rfl lr (.cons rfl lr (.cons rfl lr .nil))) (Reown.refl _) (fun _ h => by first | exact h | simp [h])⟩
  have hge : ks.length ≤ j := by simpa using c3
  refine J.exit (thenQ.x (thenQ.x (blkQ.hit (thenQ.n (Zs (Zq rfl (QW.assign .const) (Zq rfl (QW.assign .const) (Zn (J.ret ?_)))))))))
  have hnx : ks[low ks key]? ≠ some key := fun h => (by obtain ⟨h1, h2⟩ := List.getElem?_eq_some_iff.1 h; exact hno _ h1 (by omega) h2)
  exact Zr [.k, .k] (RetEv.two rfl (REv.tmp rfl lr) (REv.tmp rfl lr)) rfl ⟨congrArg Res.ret (plcAV_no (i := low ks key) (e := 71) (by simp [V.fnd, V.kind, V.keys, hnx]) (by decide)).symm, rfl⟩
def getAV (v : V) (p : List StT) : AV := .tup [.agg ((v.getv p).1.cs true), .c (.int .i64 (v.getv p).2)]
theorem getAV_of {v u : V} {p : List StT} {e : Int} (h : v.getv p = (u, e)) : getAV v p = .tup [.agg (u.cs true), .c (.int .i64 e)] := by rw [getAV, h]
theorem V.cs_it (fr : Bool) (u : V) : (u.cs fr)[0 + 4]? = some (.sl fr false eV (V.css fr u.items)) := by cases u; rfl
theorem drop_at {α : Type} {l : List α} {j : Nat} (h : j < l.length) : l.drop j = l[j] :: l.drop (j + 1) := List.drop_eq_getElem_cons h
theorem get_ok {fr fr2 c2 : Bool} {v : V} {p : List StT} {ys : List AV} (hv : Vc fr v ys) (hw : v.wf) (hp : p.length * 32 ≤ reach ∧ ∀ s ∈ p, s.wf) : Fn Tryz.prog 132 [.agg ys, .sl fr2 c2 eSt (StT.css p)] (getAV v p) := by
  obtain ⟨hp80, hpw⟩ := hp
  have hpl : p.length ≤ 4398046511104 := by unfold reach at hp80; omega
  subst hv
  refine AC.of_J Tryz.func132 rfl Tryz.ntmps132 rfl fun w0 A0 => ?_
  refine Zs (JL.box_agg (.tmp rfl) rfl fun b2 => JL.alloc z29 rfl rfl fun b4 => Zq rfl (QW.assign .const) (Zn (J.seq (Zs (Zq rfl (QW.load_box 1 ty29 (.tmp rfl) rfl (take_at vl rfl) vl) (Zq rfl (QW.call gofn18 (.cons (.tmp rfl) .nil) (check_ok Vc.self hw)) (Zq rfl (QW.assign (.tmp rfl)) ?_)))))))
  refine Zn (Zs (Zq rfl (QW.move (.tmp rfl)) (Zq rfl (QW.neq (.tmp rfl) .const) (Zn ?_))))
  refine J.cond (.tmp rfl) (fun c1 => ?_) (fun c1 => ?_)
  · skip
    simp at c1
    exact Zs (Zq rfl (QW.build (idx := []) pl29 z29 rfl .nil rfl rfl rfl rfl) (Zq rfl (QW.move (.tmp rfl)) (JL.store_boxF 0 ty29 (.tmp rfl) rfl (.tmp rfl) rfl rfl rfl rfl (Zq rfl (QW.assign (.tmp rfl)) (Zn (J.ret (thenQ.r (Zr [.k, .k] (RetEv.two rfl (REv.cell 0 ty29 rfl rfl rfl rfl (.aggL (.cons lr (.cons lr (.cons lr (.cons (.nil true false _) (.cons (.nil true false _) .nil))))))) (REv.tmp rfl lr)) rfl ⟨congrArg Res.ret (getAV_of (u := .nil) (e := v.err) (by rw [V.getv, if_pos c1])).symm, rfl⟩))))))))
  simp at c1
  have hfv := V.fine_of c1
  refine Zk (J.seq (Zs (Zq rfl (QW.move (.tmp rfl)) (Zq rfl (QW.len_slE sl121 (.tmp rfl) (StT.css_length _)) (Zq rfl (QW.move .const) (Zn (J.block (J.loopK (ι := Nat × V) [2, 4, 17, 18] (fun ⟨j, u⟩ => [(19, .c (.int .i64 (j : Int)))]) (fun ⟨j, u⟩ oo => List.set oo 1 (.box b2 (u.cs fr))) (fun ⟨j, u⟩ => j ≤ p.length ∧ u.Fine ∧ u.wf ∧ v.walk p = u.walk (p.drop j)) (fun ⟨j, u⟩ => p.length - j) ⟨0, v⟩ (⟨Nat.zero_le _, hfv, hw, rfl⟩) (Wk.re (.cons rfl lr (.cons rfl lr (.cons rfl lr (.cons rfl lr (.cons rfl lr .nil))))) (Reown.refl _) (fun _ h => by first | exact h | simp [h])) ?_))))))))
  intro ⟨j, u⟩ ⟨hj, hf, huw, hwk⟩
  refine J.conv (by (try simp only [nl, stepsO, valO, nthO, curO, mrg, AV.cellsOf, splice_zero, splice_succ, Nat.reduceAdd]); rfl) ?_
  refine Zs (Zq rfl (QW.lss (.tmp rfl) (.tmp rfl)) (Zn (J.seq ?_)))
  refine J.cond (.tmp rfl) (fun c2 => ?_) (fun c2 => ?_)
  · skip
    have hlt : j < p.length := by simpa using c2
    refine Zk (J.seq (J.block (Zs (Zq rfl (QW.index_sl sl121 ty120 rfl (.tmp rfl) (.tmp rfl) rfl (by exact StT.css_getE hlt)) ?_))))
    refine Zq rfl (QW.load_ref ty120 (.tmp rfl) rfl rfl) (JL.alloc z120 rfl rfl fun b8 => JL.store_boxF 0 ty120 (.tmp rfl) rfl (.tmp rfl) rfl rfl rfl rfl (Zn (Zs (Zq rfl (QW.load_box 2 ty29 (.tmp rfl) rfl (take_at vl rfl) vl) (Zq rfl (QW.load_box 0 ty120 (.tmp rfl) rfl rfl rfl) (Zq rfl (QW.call gofn133 (.cons (.tmp rfl) (.cons (.tmp rfl) .nil)) (find_ok Vc.self Sc.self hf.part (hpw _ (List.getElem_mem hlt)))) (Zq rfl (QW.move (.tmp rfl)) (Zq rfl (QW.extract (.tmp rfl) rfl) ?_))))))))
    refine Zq rfl (QW.extract (.tmp rfl) rfl) (Zq rfl (QW.assign (.tmp rfl)) (Zq rfl (QW.assign (.tmp rfl)) (Zn (J.seq (Zs (Zq rfl (QW.move (.tmp rfl)) (Zq rfl (QW.neq (.tmp rfl) .const) (Zn ?_))))))))
    refine J.cond (.tmp rfl) (fun c3 => ?_) (fun c3 => ?_)
    · skip
      simp at c3
      refine Zs (Zq rfl (QW.build (idx := []) pl29 z29 rfl .nil rfl rfl rfl rfl) (Zq rfl (QW.move (.tmp rfl)) (JL.store_boxF 1 ty29 (.tmp rfl) rfl (.tmp rfl) rfl rfl rfl rfl (Zq rfl (QW.assign (.tmp rfl)) (Zn (J.ret (thenQ.r (blkQ.r (thenQ.r ?_)))))))))
      exact thenQ.r (blkQ.r (thenQ.r (Zr [.k, .k, .k] (RetEv.two rfl (REv.cell 1 ty29 rfl rfl rfl rfl (.aggL (.cons lr (.cons lr (.cons lr (.cons (.nil true false _) (.cons (.nil true false _) .nil))))))) (REv.tmp rfl lr)) rfl ⟨congrArg Res.ret (getAV_of (u := .nil) (e := (u.fnd (p[j]'hlt)).2) (by rw [V.getv, if_neg (by simp [c1]), hwk, drop_at hlt, V.walk, if_pos c3])).symm, rfl⟩)))
    simp at c3
    have hil := V.fnd_lt hf.part c3
    have hcn : (if (u.fnd (p[j]'hlt)).2 = 0 then ((u.fnd (p[j]'hlt)).1 : Int) else -1) = ((u.fnd (p[j]'hlt)).1 : Int) := if_pos c3
    refine Zk (J.region_lit (Zq rfl (QW.field_ptr fo29_4 (.tmp rfl) rfl) (Zq rfl (QW.load_box1 2 ty27 (.tmp rfl) rfl (V.cs_it fr u)) (Zq rfl (QW.move (.tmp rfl)) (Zq rfl (QW.index_sl sl27 ty29 rfl (.tmp rfl) (.tmp rfl) rfl (by exact (V.css_getE fr hil).trans (by rw [← V.kid_eq hil]))) ?_)))))
    refine Zq rfl (QW.load_ref ty29 (.tmp rfl) (take_at0 vl rfl) vl) (JL.store_boxF 2 ty29 (.tmp rfl) rfl (.tmp rfl) rfl vl vl rfl (JL.nil (blkQ.n (thenQ.n (J.region_lit (Zq rfl (QW.add (.tmp rfl) .const (w64 (by omega))) (Zq rfl (QW.move (.tmp rfl)) (Zn ?_))))))))
    exact ⟨⟨j + 1, u.kid (u.fnd (p[j]'hlt)).1⟩, ⟨hlt, hf.kid (V.kid_mem hil), huw.kid (V.kid_mem hil), by rw [hwk, drop_at hlt, V.walk, if_neg (by simpa using c3)]⟩, by show p.length - (j + 1) < p.length - j; omega, Wk.re (.cons rfl lr (.cons rfl lr (.cons rfl lr (.cons rfl lr (.cons rfl lr .nil))))) (Reown.dropN 1 _ rfl) (fun _ h => by first | exact h | simp [h])⟩
  have hge : p.length ≤ j := by simpa using c2
  refine J.exit (thenQ.x (thenQ.x (blkQ.hit (thenQ.n (Zs (Zq rfl (QW.load_box 1 ty29 (.tmp rfl) rfl (take_at vl rfl) vl) (Zq rfl (QW.call gofn32 (.cons (.tmp rfl) .nil) (clone_rd Vc.self huw)) (JL.store_boxF 0 ty29 (.tmp rfl) rfl (.tmp rfl) rfl vl rfl rfl (Zq rfl (QW.assign .const) ?_)))))))))
  refine Zn (J.ret ?_)
  rw [List.drop_of_length_le hge] at hwk
  exact Zr [.k, .k] (RetEv.two rfl (REv.cell 0 ty29 rfl rfl (take_at vl rfl) vl lr) (REv.tmp rfl lr)) rfl ⟨congrArg Res.ret (getAV_of (u := u) (e := 0) (by rw [V.getv, if_neg (by simp [c1]), hwk]; rfl)).symm, rfl⟩
end Go.Proofs.YtjhonjdhanlbkaaGreat.J

