/- Texts of this proof, laid together. -/
import Derived.Test.YtkiankpmkglhcaaX2RPackOne
import Derived.Lib.AppendZerosOnto
import Derived.Laws.Externs
/- Parts of own arrays: an own array laid open as a block; slices of it as constants; copies, appends in place, clearing, room that is made. -/
namespace Go.Proofs.Ytkiankpmkglhcaa.J
open Go Go.RowKit
set_option linter.unusedVariables false
set_option linter.unusedSimpArgs false
abbrev sv (b off l c : Nat) : Value := .slice (some ⟨b, off, none⟩) l c
section
variable {P : Program} {E : Ent} {st : St} {Q : Exit → St → Prop} {n B : Nat} {env : List (Nat × AV)} {own : List Own} {F : List (Value × AV)} {D : List Deferred} {ops : Array Oper} {rest : List Oper} {c : Code}
variable {A : Foot} {a : Act} {w w' : World} {t tx et ty : TypeId} {pos : String} {af : Array Edge} {d : Nat} {dd : Option Tmp} {gd : Option (Nat × Bool)} {x y s lo hi mx : Operand} {g : Bool} {m : Nat} {k k' k'' : IntKind} {i j j' : Int}
/-! ### open and shut -/
theorem SatA.swap {i : Nat} {o o' : Own} (h : SatA E A ⟨n, env, own, F, D⟩ a w) (hi : own[i]? = some o) (hf : o'.fp = o.fp) (ho : o'.ok w A) : SatA E A ⟨n, env, own.set i o', F, D⟩ a w :=
  ⟨h.size, h.defers, h.keep, h.hp.upd hi hf (.refl _ _) rfl ho, h.env, h.facts⟩
theorem SatA.fold {i : Nat} {b cap : Nat} {ys : List AV} {v : Value} {e : ETy} {xs : List (List AV)} (h : SatA E A ⟨n, env, own, F, D⟩ a w) (hi : own[i]? = some (.box b ys)) (hv : v = sv b 0 xs.length (cap + 1)) (hle : xs.length ≤ cap + 1)
    (hs : ∀ x ∈ xs, x.length = e.sz) (hl : ys.length = (cap + 1) * e.sz) (hp : ys.take xs.flatten.length = xs.flatten) : SatA E A ⟨n, env, own.set i (.arr v e xs), F, D⟩ a w := by
  obtain ⟨us, t, h1, h2, h3⟩ := (h.hp.own _ (List.mem_of_getElem? hi) : (Own.box b ys).ok w A)
  refine h.swap hi (by rw [hv]; rfl) (.inr ⟨b, cap, us, t, hv, h1, hle, ⟨by rw [h2, hl], fun k u hu => ?_⟩, hs, fun k y hk => ?_⟩)
  · have hk : k < ys.length := by rw [← h2]; exact (Array.getElem?_eq_some_iff.1 hu).1
    obtain ⟨u', g1, g2, _⟩ := h3 k _ (List.getElem?_eq_getElem hk)
    rw [Nat.zero_add, hu] at g1
    cases g1; exact g2
  · refine h3 k y ?_
    have hk1 := (List.getElem?_eq_some_iff.1 hk).1
    rw [← hp] at hk
    rw [List.getElem?_take] at hk
    rwa [if_pos hk1] at hk
theorem J.fold (i : Nat) {b cap : Nat} {ys : List AV} {v : Value} {e : ETy} (xs : List (List AV)) (hi : own[i]? = some (.box b ys)) (hv : v = sv b 0 xs.length (cap + 1)) (hle : xs.length ≤ cap + 1)
    (hs : ∀ x ∈ xs, x.length = e.sz) (hl : ys.length = (cap + 1) * e.sz) (hp : ys.take xs.flatten.length = xs.flatten) {own' : List Own} (ho : own.set i (.arr v e xs) = own') (h : J P E c ⟨n, env, own', F, D⟩ Q) : J P E c ⟨n, env, own, F, D⟩ Q := fun a w ⟨A, hA⟩ => by
  subst ho
  exact h a w ⟨A, hA.fold hi hv hle hs hl hp⟩
/-! ### slices of a block, as constants -/
/-! ### what is copied -/
/-- The first m of a slice of l elements: their cells. -/
def SrcN (P : Program) (w : World) (A : Foot) (sz m l : Nat) (v : Value) (zs : List AV) : Prop :=
  ∃ ad cp cs, v = .slice ad l cp ∧ (Builtin.firstCells sz m v).run P w = .ok (List.toArray cs) w ∧ Cells w A cs.toArray 0 zs ∧ cs.length = zs.length ∧ zs.length = m * sz
theorem cells_part {us : Array Value} {zs : List AV} {b off o2 mm : Nat} {tt : TypeId} {fz : Nat × Nat} (h : Cells w A us off zs) (hb : w.heap[b]? = some (.cells us tt fz)) (hle : o2 + mm ≤ zs.length) :
    ∃ cs : List Value, cs.length = mm ∧ (∀ j u, cs[j]? = some u → w.cell? ((⟨b, off + o2, none⟩ : Addr).add j) = some u) ∧ Cells w A cs.toArray 0 ((zs.drop o2).take mm) := by
  have hg : ∀ q, q < mm → ∃ u, us[off + (o2 + q)]? = some u ∧ u.oneCell' = true ∧ ∀ y, zs[o2 + q]? = some y → Rd w A u y := fun q hq => by
    obtain ⟨u, h1, h0, h2⟩ := h (o2 + q) _ (List.getElem?_eq_getElem (by omega))
    exact ⟨u, h1, h0, fun y hy => by rw [List.getElem?_eq_getElem (by omega)] at hy; cases hy; exact h2⟩
  have hu : ∀ q, q < mm → us[off + (o2 + q)]? = some (us.getD (off + (o2 + q)) undef) := fun q hq => by
    obtain ⟨u, h1, _⟩ := hg q hq
    simp [Array.getD_eq_getD_getElem?, h1]
  refine ⟨(List.range mm).map fun q => us.getD (off + (o2 + q)) undef, by simp, fun q u hq => ?_, fun q y hq => ?_⟩
  · rw [List.getElem?_map] at hq
    by_cases hlt : q < mm
    · rw [List.getElem?_range hlt] at hq; cases hq
      rw [add_at, cell_at hb, Nat.add_assoc]; exact hu q hlt
    · rw [List.getElem?_eq_none (by simpa using hlt)] at hq; cases hq
  · rw [List.getElem?_take] at hq
    split at hq
    · rename_i hlt
      rw [List.getElem?_drop] at hq
      obtain ⟨u, h1, h0, h2⟩ := hg q hlt
      have : us.getD (off + (o2 + q)) undef = u := by simp [Array.getD_eq_getD_getElem?, h1]
      exact ⟨u, by simp [hlt, h1], h0, h2 y hq⟩
    · cases hq
theorem SrcN.box {sz mm l cp b2 o2 i2 : Nat} {zs : List AV} {st : St} (h : Ev E st x (.c (sv b2 o2 l cp))) (ho : st.own[i2]? = some (.box b2 zs)) (hm : mm ≤ l) (hle : o2 + mm * sz ≤ zs.length) : ∀ A a w, SatA E A st a w → SrcN P w A sz mm l (a.eval x) ((zs.drop o2).take (mm * sz)) := fun A a w hs => by
  obtain ⟨us, tt, h1, h2, h3⟩ := (hs.hp.own _ (List.mem_of_getElem? ho) : (Own.box b2 zs).ok w A)
  obtain ⟨cs, g1, g2, g3⟩ := cells_part (off := 0) h3 h1 hle
  rw [Nat.zero_add] at g2
  refine ⟨_, _, cs, h.eq hs, ?_, g3, by rw [g1]; simp; omega, by simp; omega⟩
  rw [h.eq hs]
  exact run_firstCells_some w sz mm ⟨b2, o2, none⟩ l cp cs g1 g2
theorem SrcN.sl {sz mm : Nat} {fr clip : Bool} {e : ETy} {xs : List (List AV)} {st : St} (h : Ev E st x (.sl fr clip e xs)) (hsz : e.sz = sz) (hm : mm ≤ xs.length) : ∀ A a w, SatA E A st a w → SrcN P w A sz mm xs.length (a.eval x) (xs.flatten.take (mm * sz)) := fun A a w hs => by
  obtain ⟨ad, cap, hv, _, _, hc⟩ := (h A a w hs).of_sl
  rcases hc with rfl | ⟨b, off, cs, t', fz, rfl, hAb, hb, hxl, _, hc⟩
  · obtain rfl : mm = 0 := by simpa using hm
    refine ⟨_, _, [], hv, ?_, fun k y hk => by simp at hk, by simp, by simp⟩
    rw [hv]
    cases ad with
    | none => exact run_firstCells_none w sz 0 _ _
    | some a' => exact run_firstCells_some w sz 0 a' _ _ [] (by simp) (by intro _ _ h'; simp at h')
  · have hfl := flatten_length xs hxl
    subst hsz
    have hle : 0 + mm * e.sz ≤ xs.flatten.length := by rw [hfl, Nat.zero_add]; exact Nat.mul_le_mul_right _ hm
    obtain ⟨vs, g1, g2, g3⟩ := cells_part (o2 := 0) hc hb hle
    rw [List.drop_zero] at g3
    refine ⟨_, _, vs, hv, ?_, g3, by rw [g1, List.length_take]; omega, by rw [List.length_take]; omega⟩
    rw [hv]
    exact run_firstCells_some w e.sz mm ⟨b, off, none⟩ _ _ vs g1 (by simpa using g2)
theorem SrcN.one {sz : Nat} {fr clip : Bool} {e : ETy} {ys : List AV} {st : St} (h : Ev E st x (.sl fr clip e [ys])) (hsz : e.sz = sz) (hy : ys.length = sz) : ∀ A a w, SatA E A st a w → SrcN P w A sz 1 1 (a.eval x) ys := fun A a w hs => by
  have := SrcN.sl (P := P) (mm := 1) h hsz (Nat.le_refl 1) A a w hs
  have h2 : ([ys] : List (List AV)).flatten.take (1 * sz) = ys := by
    rw [Nat.one_mul, show ([ys] : List (List AV)).flatten = ys by simp]
    exact List.take_of_length_le (Nat.le_of_eq hy)
  rwa [h2] at this
/-- slices.overlaps: a slice that is read, and a part of an own block. -/
theorem run_apart {tS tR : TypeId} {va b off l cb lA cA oA : Nat} {csA us : Array Value} {tA tB : TypeId} {fz : Nat × Nat} (hU : P.underlying tS = some (.slice et)) (hT : tySz P et = some (g, m, B)) (ha : w.heap[va]? = some (.cells csA tA fz)) (hb : w.heap[b]? = some (.cells us tB (0, 0))) (hne : va ≠ b) (hkA : csA.size ≠ 0) (hkB : us.size ≠ 0) :
    (Extern.SlicesOverlaps.overlaps #[tS, tS] #[tR] #[sv va oA lA cA, sv b off l cb]).run P w = .ok (.bool false) w := by
  have hsa : w.shape? va = some (tA, csA.size) := by simp [World.shape?, ha]
  have hsb : w.shape? b = some (tB, us.size) := by simp [World.shape?, hb]
  have hfb : ∀ q, w.frozen? ⟨b, q, none⟩ = false := fun q => by simp [World.frozen?, hb]
  have hnb : (va != b) = true := by simpa using hne
  have hnb' : (va == b) = false := by simpa using hne
  obtain ⟨nA, hnA⟩ : ∃ nA, csA.size = nA + 1 := ⟨csA.size - 1, by omega⟩
  rw [hnA] at hsa
  obtain ⟨nB, hnB⟩ : ∃ nB, us.size = nB + 1 := ⟨us.size - 1, by omega⟩
  rw [hnB] at hsb
  change Sem.run P (α := Value) (do
    let some t := (#[tS, tS] : Array TypeId)[0]? | stuck "slices.overlaps: no parameter types"
    let .slice elem ← underlying t | stuck "slices.overlaps: slice type expected"
    let size ← sizeOf elem
    match (some ⟨va, oA, none⟩ : Option Addr), (some ⟨b, off, none⟩ : Option Addr) with
    | some a, some b =>
      if lA = 0 ∨ l = 0 ∨ size = 0 then pure (Value.bool false)
      else if a.block != b.block && (← frozen a) && (← frozen b) then unsupported .addressObserved
      else do
        if a.block != b.block then do
          noView a; noView b
          if ← mayBeOne a b then return Value.bool ((← choose (.extern "sameAddr.stringBytes" 2)) == 1)
        pure (Value.bool (a.block == b.block && a.off < b.off + l * size && b.off < a.off + lA * size))
    | _, _ => pure (Value.bool false)) w = _
  by_cases h0 : lA = 0 ∨ l = 0 ∨ m = 0
  · simp [run_underlying _ hU, run_sizeOf hT, h0]
  · cases hf1 : w.frozen? ⟨va, oA, none⟩ <;> cases hf2 : w.frozen? ⟨va, nA + 1, none⟩ <;>
      simp [run_underlying _ hU, run_sizeOf hT, h0, hnb, hnb', frozen, noView, viewAt, mayBeOne, stringish, shape, Sem.run, hsa, hsb, hf1, hf2, hfb]
theorem QW.apart (i : Nat) {f : FuncId} {tS tR : TypeId} {tys : Array TypeId} {b off l cb : Nat} {ys : List AV} {fr clip : Bool} {e : ETy} {xs : List (List AV)} (hU : P.underlying tS = some (.slice et)) (hT : tySz P et = some (g, m, B))
    (hf : ∀ u v w, (callFunc f #[u, v]).run P w = ((Extern.SlicesOverlaps.overlaps #[tS, tS] #[tR] #[u, v]).run P w).andThen fun v w' => .ok (.value v) w')
    (hx : Ev E ⟨n, env, own, F, D⟩ x (.sl fr clip e xs)) (hy : Ev E ⟨n, env, own, F, D⟩ y (.c (sv b off l cb))) (ho : own[i]? = some (.box b ys)) (hn : xs.flatten ≠ []) (hn2 : ys ≠ []) :
    QW P E ⟨n, env, own, F, D⟩ ⟨dd, .call ⟨.value (.func f), #[x, y], tys⟩, ty, pos, af, gd⟩ (.c (.bool false)) := .pure fun A a w hs => by
  refine ⟨.bool false, ?_, .c _⟩
  obtain ⟨ad, cap, hv, _, _, hc⟩ := (hx A a w hs).of_sl
  obtain ⟨us, tt, h1, h2, h3⟩ := (hs.hp.own _ (List.mem_of_getElem? ho) : (Own.box b ys).ok w A)
  rcases hc with rfl | ⟨va, oA, csA, tA, fz, rfl, hAb, hb, hxl, _, hc⟩
  · exact absurd rfl hn
  have hne : va ≠ b := fun he => by
    subst he
    exact (hs.hp.fp va (fps_mem (List.mem_of_getElem? ho) (by simp [Own.fp]))).2.2 fr hAb
  have hkA : csA.size ≠ 0 := fun h0 => by
    obtain ⟨y0, hy0⟩ : ∃ y0, xs.flatten[0]? = some y0 := by
      cases hxf : xs.flatten with
      | nil => exact absurd hxf hn
      | cons a0 r => exact ⟨a0, rfl⟩
    obtain ⟨u, m1, _⟩ := hc 0 y0 hy0
    have := (Array.getElem?_eq_some_iff.1 m1).1
    omega
  have hkB : us.size ≠ 0 := by rw [h2]; exact fun h0 => hn2 (List.length_eq_zero_iff.1 h0)
  have hr := run_apart (P := P) (tR := tR) (oA := oA) (lA := xs.length) (cA := cap) (off := off) (l := l) (cb := cb) hU hT hb h1 hne hkA hkB
  have := hf (sv va oA xs.length cap) (sv b off l cb) w
  rw [hr] at this
  simp only [execOp, resolve, Act.eval, Deferred.ofValue, Sem.run_bind, Sem.run_pure, Result.andThen_ok, invoke]
  simpa [hv, hy.eq hs, Result.andThen] using this
end
/-! ### plain: an element laid in, or taken out -/
end Go.Proofs.Ytkiankpmkglhcaa.J

/- A place within an owned value: what the whole is when another value stands there. -/
namespace Go.Proofs.Ytkiankpmkglhcaa.J
open Go Go.RowKit
set_option linter.unusedVariables false
set_option linter.unusedSimpArgs false
theorem Reown.fold {b cap : Nat} {ys : List AV} {v : Value} {e : ETy} {xs : List (List AV)} (hv : v = sv b 0 xs.length (cap + 1)) (hle : xs.length ≤ cap + 1)
    (hs : ∀ x ∈ xs, x.length = e.sz) (hl : ys.length = (cap + 1) * e.sz) (hp : ys.take xs.flatten.length = xs.flatten) : Reown [.box b ys] [.arr v e xs] := by
  subst hv
  refine ⟨fun x => by simp [fps_cons, fps_nil, Own.fp, arrFp, sv], fun w A h => ?_⟩
  simp only [List.forall_mem_cons, List.not_mem_nil, false_implies, implies_true, and_true] at h ⊢
  simp only [Own.ok] at h ⊢
  obtain ⟨us, t, h1, h2, h3⟩ := h
  refine .inr ⟨b, cap, us, t, rfl, h1, hle, ⟨by rw [h2, hl], fun k u hu => ?_⟩, hs, fun k y hk => ?_⟩
  · have hk : k < ys.length := by rw [← h2]; exact (Array.getElem?_eq_some_iff.1 hu).1
    obtain ⟨u', g1, g2, _⟩ := h3 k _ (List.getElem?_eq_getElem hk)
    rw [Nat.zero_add, hu] at g1
    cases g1; exact g2
  · refine h3 k y ?_
    have hk1 := (List.getElem?_eq_some_iff.1 hk).1
    rw [← hp] at hk
    rw [List.getElem?_take] at hk
    rwa [if_pos hk1] at hk
theorem Reown.hd {o : Own} {a l : List Own} (h : Reown [o] a) : Reown (o :: l) (a ++ l) :=
  (Reown.perm (List.perm_append_singleton o l).symm).trans ((Reown.left (c := l) h).trans (Reown.perm List.perm_append_comm))
def Law (b : Nat) (pre post : List AV) (ctx : Own) (b0 : Nat) (plug : V → V) : Prop :=
  ∀ (x : V) (kv iv : Value) (ok oi : Own), x.wf → VTr x kv iv ok oi → ∃ kw iw okw oiw, VTr (plug x) kw iw okw oiw ∧ Reown [.box b (pre ++ x.raw kv iv ++ post), ok, oi, ctx] [.box b0 ((plug x).raw kw iw), okw, oiw]
theorem set_parts {α : Type} {l : List α} {i : Nat} {x : α} (h : i < l.length) : l.set i x = l.take i ++ x :: l.drop (i + 1) := by
  rw [List.set_eq_take_append_cons_drop, if_pos h]
/-- One step further in. -/
theorem Law.into {b b0 b2 cap i : Nat} {pre post : List AV} {ctx ok ob oa : Own} {plug : V → V} {u : V} {kv iv : Value} {cs : List (List AV)} {sp u1 u3 : List Value} (hL : Law b pre post ctx b0 plug) (huw : u.wf) (hk1 : kv.oneCell' = true) (hi1 : iv.oneCell' = true) (hks : Tr (.sl true false eStr (keysAV u.keys)) kv ok)
    (hlt : i < u.items.length) (hcl : cs.length = u.items.length) (h5 : ∀ x ∈ cs, x.length = 5) (hiv : iv = sv b2 0 cs.length (cap + 1)) (hcap : cs.length ≤ cap + 1) (hsz : cs.flatten.length + sp.length = (cap + 1) * 5)
    (t1 : TrL (V.css true (u.items.take i)).flatten u1 ob) (t3 : TrL (V.css true (u.items.drop (i + 1))).flatten u3 oa) (f1 : (cs.take i).flatten = u1.map AV.c) (f3 : (cs.drop (i + 1)).flatten = u3.map AV.c) (a1 : u1.all (·.oneCell') = true) (a3 : u3.all (·.oneCell') = true) :
    Law b2 (cs.take i).flatten ((cs.drop (i + 1)).flatten ++ sp.map AV.c) (.grp [.box b (pre ++ u.raw kv iv ++ post), ok, ob, oa, ctx]) b0 (fun x => plug (u.setAt i x)) := fun x kx ix okx oix hxw hx => by
  have hclt : i < cs.length := by omega
  have hflat : (cs.set i (x.raw kx ix)).flatten = (u1 ++ (x.vals kx ix ++ u3)).map AV.c := by
    rw [set_parts hclt, List.flatten_append, List.flatten_cons, f1, f3, V.raw_eq, List.map_append, List.map_append]
  have hrl : (x.raw kx ix).length = 5 := rfl
  have h5' : ∀ z ∈ cs.set i (x.raw kx ix), z.length = 5 := fun z hz => (List.mem_or_eq_of_mem_set hz).elim (h5 z) fun e => e ▸ rfl
  have hits : u.items.length * 80 ≤ reach := by obtain ⟨k, b, t, ks, is⟩ := u; exact huw.inv.2.2.2.2.1
  have htl : TrL (V.css true (u.items.set i x)).flatten (u1 ++ (x.vals kx ix ++ u3)) (.grp [ob, .grp [.grp [okx, oix], oa]]) := by
    rw [set_parts hlt, V.css_append, List.flatten_append, V.css, List.flatten_cons]
    exact t1.append (hx.trL.append t3 (.refl _)) (.refl _)
  have hIt : Tr (.sl true false eV (V.css true (u.items.set i x))) iv (.grp [.arr iv eV (cs.set i (x.raw kx ix)), .grp [ob, .grp [.grp [okx, oix], oa]]]) :=
    items_tr hflat (by simp [hcl]) h5' (by rw [List.all_append, List.all_append, a1, hx.ones, a3]; rfl) (by simpa using hits) htl
  have hV : VTr (u.setAt i x) kv iv ok (.grp [.arr iv eV (cs.set i (x.raw kx ix)), .grp [ob, .grp [.grp [okx, oix], oa]]]) := ⟨hk1, hi1, hks, hIt⟩
  obtain ⟨kw, iw, okw, oiw, g1, g2⟩ := hL _ _ _ _ _ (V.setAt_wf huw hxw) hV
  refine ⟨kw, iw, okw, oiw, g1, Reown.trans ?_ g2⟩
  have hfold : Reown [.box b2 ((cs.take i).flatten ++ x.raw kx ix ++ ((cs.drop (i + 1)).flatten ++ sp.map AV.c))] [.arr iv eV (cs.set i (x.raw kx ix))] := by
    have he : (cs.take i).flatten ++ x.raw kx ix ++ ((cs.drop (i + 1)).flatten ++ sp.map AV.c) = (cs.set i (x.raw kx ix)).flatten ++ sp.map AV.c := by
      rw [set_parts hclt, List.flatten_append, List.flatten_cons]; simp
    have hl2 : (cs.set i (x.raw kx ix)).flatten.length = cs.flatten.length := by
      rw [flatten_length (sz := 5) _ h5', flatten_length (sz := 5) _ h5, List.length_set]
    rw [he]
    refine Reown.fold (cap := cap) (by rw [List.length_set]; exact hiv) (by rw [List.length_set]; exact hcap) h5' ?_ (List.take_left)
    rw [List.length_append, List.length_map, hl2]; exact hsz
  refine (Reown.hd (l := [okx, oix, .grp [.box b (pre ++ u.raw kv iv ++ post), ok, ob, oa, ctx]]) hfold).trans ?_
  refine ⟨fun y => by simp only [fps_cons, fps_nil, fp_grp, List.count_append, List.count_nil, List.singleton_append, V.raw, V.setAt, V.kind, V.bits, V.text]; simp only [Own.fp]; omega, fun w A h => ?_⟩
  simp only [List.forall_mem_cons, List.singleton_append, ok_grp, List.not_mem_nil, false_implies, implies_true, and_true] at h ⊢
  obtain ⟨q1, q2, q3, q4, q5, q6, q7, q8⟩ := h
  exact ⟨q4, q5, ⟨q1, q6, ⟨q2, q3⟩, q7⟩, q8⟩
/-- Where in a value one stands. -/
structure At where
  b : Nat
  off : Nat
  pre : List AV
  post : List AV
  u : V
  kv : Value
  iv : Value
  ok : Own
  oi : Own
  ctx : Own
  plug : V → V
def holeC (z : At) (u : V) (kv iv : Value) : List AV := z.pre ++ u.raw kv iv ++ z.post
section
variable {P : Program} {E : Ent} {st : St} {t et ty : TypeId} {pos : String} {af : Array Edge} {dd : Option Tmp} {gd : Option (Nat × Bool)} {x y : Operand} {g : Bool} {n B : Nat}
end
end Go.Proofs.Ytkiankpmkglhcaa.J

/- Items (effects on their way) and boxes of them, as plain data. -/
namespace Go.Proofs.Ytkiankpmkglhcaa.J
open Go Go.RowKit
set_option linter.unusedVariables false
set_option linter.unusedSimpArgs false
structure ItT where
  id : Int
  ev : EvT
  deriving DecidableEq
def eIt : ETy := ⟨7, 104⟩
def ItT.cs (fr : Bool) (e : ItT) : List AV := .c (.int .i64 e.id) :: e.ev.cs fr
def ItT.css (fr : Bool) (l : List ItT) : List (List AV) := l.map (ItT.cs fr)
theorem ItT.cs_length (fr : Bool) (e : ItT) : (e.cs fr).length = 7 := by simp [ItT.cs, EvT.cs_length]
theorem ItT.css_length (fr : Bool) (l : List ItT) : (ItT.css fr l).length = l.length := by simp [ItT.css]
theorem ItT.css_get (fr : Bool) {l : List ItT} {i : Nat} {v : ItT} (h : l[i]? = some v) : (ItT.css fr l)[i]? = some (v.cs fr) := by simp [ItT.css, h]
theorem ItT.css_getE (fr : Bool) {l : List ItT} {i : Nat} (h : i < l.length) : (ItT.css fr l)[i]? = some ((l[i]).cs fr) := ItT.css_get fr (List.getElem?_eq_getElem h)
theorem ItT.css_append (fr : Bool) (a b : List ItT) : ItT.css fr (a ++ b) = ItT.css fr a ++ ItT.css fr b := by simp [ItT.css]
theorem ItT.css_sz (fr : Bool) (l : List ItT) : ∀ x ∈ ItT.css fr l, x.length = eIt.sz := by
  intro x hx
  obtain ⟨v, _, rfl⟩ := List.mem_map.1 hx
  exact ItT.cs_length fr v
def Ic (fr : Bool) (e : ItT) (ys : List AV) : Prop := ys = e.cs fr
theorem Ic.self {fr : Bool} {e : ItT} : Ic fr e (e.cs fr) := rfl
theorem Ic.mk {fr : Bool} {n : Int} {v : EvT} : Ic fr ⟨n, v⟩ (.c (.int .i64 n) :: v.cs fr) := rfl
theorem ItT.cs_fl (fr : Bool) (e : ItT) : FlL (· = fr) (e.cs fr) := .cons (.c _) (EvT.cs_fl fr _)
theorem ItT.css_fl (fr : Bool) (l : List ItT) : FlL (· = fr) (ItT.css fr l).flatten := FlL.flat fun x hx => by
  obtain ⟨v, _, rfl⟩ := List.mem_map.1 hx
  exact v.cs_fl fr
theorem ItT.cs_le {F : List (Value × AV)} (fr fr' : Bool) (hf : fr' = true → fr = true) (e : ItT) : LeL F (e.cs fr) (e.cs fr') := .cons (.refl _) (EvT.cs_le fr fr' hf _)
theorem ItT.css_le {F : List (Value × AV)} (fr fr' : Bool) (hf : fr' = true → fr = true) : ∀ l : List ItT, LeL F (ItT.css fr l).flatten (ItT.css fr' l).flatten
  | [] => .nil
  | v :: r => by
    simp only [ItT.css, List.map_cons, List.flatten_cons]
    exact LeL.append (v.cs_le fr fr' hf) (ItT.css_le fr fr' hf r)
structure ItT.wf (e : ItT) : Prop where
  id : -9223372036854775808 ≤ e.id ∧ e.id ≤ 9223372036854775807
  ev : e.ev.wf
def ItT.wfs (l : List ItT) : Prop := l.length * 104 ≤ reach ∧ ∀ e ∈ l, e.wf
theorem ItT.wfs.len {l : List ItT} (h : ItT.wfs l) : l.length ≤ 1353245080300 := by have := h.1; unfold reach at this; omega
theorem ItT.wfs.take {l : List ItT} (h : ItT.wfs l) (k : Nat) : ItT.wfs (l.take k) := ⟨Nat.le_trans (Nat.mul_le_mul_right _ (by simp; omega)) h.1, fun e he => h.2 e (List.mem_of_mem_take he)⟩
theorem ItT.wfs.drop {l : List ItT} (h : ItT.wfs l) (k : Nat) : ItT.wfs (l.drop k) := ⟨Nat.le_trans (Nat.mul_le_mul_right _ (by simp)) h.1, fun e he => h.2 e (List.mem_of_mem_drop he)⟩
def ItT.raw (e : ItT) (kv iv : Value) : List AV := .c (.int .i64 e.id) :: e.ev.raw kv iv
def ItT.vals (e : ItT) (kv iv : Value) : List Value := .int .i64 e.id :: e.ev.vals kv iv
theorem ItT.trL {e : ItT} {kv iv : Value} {ok oi : Own} (h : VTr e.ev.arg kv iv ok oi) : TrL (e.cs true) (e.vals kv iv) (.grp [ok, oi]) := .cons (.c (.refl _)) (EvT.trL h) (.drops _)
theorem ItT.ones {e : ItT} {kv iv : Value} {ok oi : Own} (h : VTr e.ev.arg kv iv ok oi) : (e.vals kv iv).all (·.oneCell') = true := by
  have := EvT.ones (e := e.ev) h
  simp only [ItT.vals, List.all_cons, this, Bool.and_true]
  rfl
structure BT where
  last : Int
  items : List ItT
  deriving DecidableEq
def BT.nil : BT := ⟨0, []⟩
def BT.cs (fr : Bool) : BT → List AV
  | ⟨a, l⟩ => [.c (.int .i64 a), .sl fr false eIt (ItT.css fr l)]
theorem BT.cs_length (fr : Bool) : ∀ q : BT, (q.cs fr).length = 2
  | ⟨_, _⟩ => rfl
structure BT.wf (q : BT) : Prop where
  l1 : -9223372036854775808 ≤ q.last ∧ q.last ≤ 9223372036854775807
  it : ItT.wfs q.items
def Bc (fr : Bool) (q : BT) (ys : List AV) : Prop := ys = q.cs fr
theorem Bc.self {fr : Bool} {q : BT} : Bc fr q (q.cs fr) := rfl
theorem Bc.mk {fr : Bool} {a : Int} {l : List ItT} : Bc fr ⟨a, l⟩ [.c (.int .i64 a), .sl fr false eIt (ItT.css fr l)] := rfl
def BT.av (q : BT) : AV := .agg (q.cs true)
/-! ### the page -/
def idsOk (last : Int) : Int → List ItT → Bool
  | _, [] => true
  | p, x :: r => decide (p < x.id) && decide (x.id < 32 * (last + 1)) && evOk x.ev && idsOk last x.id r
def BT.ok (q : BT) : Bool := decide (0 ≤ q.last) && decide (q.last ≤ 1099511627776) && decide (q.items.length ≤ 256) && idsOk q.last 31 q.items
def BT.err (q : BT) : Int := if q.ok then 0 else 9
def evsErr : List EvT → Int
  | [] => 0
  | e :: r => if evErr e ≠ 0 then evErr e else evsErr r
def numIt (seq : Int) : Nat → List EvT → List ItT
  | _, [] => []
  | i, e :: r => ⟨32 * seq + i, e⟩ :: numIt seq (i + 1) r
def BT.add (q : BT) (seq : Int) (l : List EvT) : BT × Int :=
  if q.ok = false then (.nil, 9) else if seq ≤ q.last then (.nil, 32) else if 1099511627776 < seq then (.nil, 4) else if 32 < l.length then (.nil, 3) else
    if evsErr l ≠ 0 then (.nil, evsErr l) else if 256 < q.items.length + l.length then (.nil, 51) else (⟨seq, q.items ++ numIt seq 0 l⟩, 0)
def BT.next (q : BT) (n : Int) : List ItT × Int :=
  if q.ok = false then ([], 9) else if n < 0 then ([], 4) else (q.items.take n.toNat, 0)
end Go.Proofs.Ytkiankpmkglhcaa.J

/- Walks: events: may one be, lists of them. -/
namespace Go.Proofs.Ytkiankpmkglhcaa.J
open Go Go.RowKit
set_option linter.unusedVariables false
set_option linter.unusedSimpArgs false
set_option maxRecDepth 10000
set_option maxHeartbeats 4000000
end Go.Proofs.Ytkiankpmkglhcaa.J

/- Walks: lists of events: are two one; copies. -/
namespace Go.Proofs.Ytkiankpmkglhcaa.J
open Go Go.RowKit
set_option linter.unusedVariables false
set_option linter.unusedSimpArgs false
set_option maxRecDepth 10000
set_option maxHeartbeats 4000000
end Go.Proofs.Ytkiankpmkglhcaa.J

/- Walks: effects and items: may one be, lists of them, copies; the box in memory of its own. -/
namespace Go.Proofs.Ytkiankpmkglhcaa.J
open Go Go.RowKit
set_option linter.unusedVariables false
set_option linter.unusedSimpArgs false
set_option maxRecDepth 10000
set_option maxHeartbeats 4000000
end Go.Proofs.Ytkiankpmkglhcaa.J

/- Walks: slices.Insert of one element, slices.Delete of one. -/
namespace Go.Proofs.Ytkiankpmkglhcaa.J
open Go Go.RowKit
set_option linter.unusedVariables false
set_option linter.unusedSimpArgs false
set_option maxRecDepth 10000
set_option maxHeartbeats 4000000
end Go.Proofs.Ytkiankpmkglhcaa.J

/- Walks: the queue and the page's queue. -/
namespace Go.Proofs.Ytkiankpmkglhcaa.J
open Go Go.RowKit
set_option linter.unusedVariables false
set_option linter.unusedSimpArgs false
set_option maxRecDepth 10000
set_option maxHeartbeats 4000000
end Go.Proofs.Ytkiankpmkglhcaa.J

/- Walks: pushing and taking, by the program and by the page. -/
namespace Go.Proofs.Ytkiankpmkglhcaa.J
open Go Go.RowKit
set_option linter.unusedVariables false
set_option linter.unusedSimpArgs false
set_option maxRecDepth 10000
set_option maxHeartbeats 4000000
end Go.Proofs.Ytkiankpmkglhcaa.J

/- Walks: items: copies of their own; boxes: may one be, copies of their own, two alike. -/
namespace Go.Proofs.Ytkiankpmkglhcaa.J
open Go Go.RowKit
set_option linter.unusedVariables false
set_option linter.unusedSimpArgs false
set_option maxRecDepth 10000
set_option maxHeartbeats 4000000
end Go.Proofs.Ytkiankpmkglhcaa.J

/- Walks: may a box be, by the program and by the page; the program's copy. -/
namespace Go.Proofs.Ytkiankpmkglhcaa.J
open Go Go.RowKit
set_option linter.unusedVariables false
set_option linter.unusedSimpArgs false
set_option maxRecDepth 10000
set_option maxHeartbeats 4000000
end Go.Proofs.Ytkiankpmkglhcaa.J

/- Walks: the program's copy of a box. -/
namespace Go.Proofs.Ytkiankpmkglhcaa.J
open Go Go.RowKit
set_option linter.unusedVariables false
set_option linter.unusedSimpArgs false
set_option maxRecDepth 10000
set_option maxHeartbeats 4000000
end Go.Proofs.Ytkiankpmkglhcaa.J

/- Fields of structs that are values, elements of arrays that are values. -/
namespace Go.Proofs.Ytkiankpmkglhcaa.J
open Go Go.RowKit
set_option linter.unusedVariables false
set_option linter.unusedSimpArgs false
section
variable {P : Program} {E : Ent} {st : St} {t t' et ty : TypeId} {pos : String} {af : Array Edge} {dd : Option Tmp} {gd : Option (Nat × Bool)} {x y : Operand} {w : World} {n B : Nat}
theorem Rd.part {A : Foot} {vs : Array Value} {ys : List AV} {off : Nat} (hn : vs.size = ys.length) (h : Cells w A vs 0 ys) (hle : off + n ≤ ys.length) : Rd w A (.agg (vs.extract off (off + n))) (.agg ((ys.drop off).take n)) := by
  refine .mk_agg (by simp; omega) fun k y hk => ?_
  rw [List.getElem?_take] at hk
  split at hk
  · rename_i hlt
    rw [List.getElem?_drop] at hk
    obtain ⟨u, h1, h0, h2⟩ := h _ y hk
    rw [Nat.zero_add] at h1 ⊢
    exact ⟨u, by rw [Array.getElem?_extract, if_pos (by omega)]; exact h1, h0, h2⟩
  · cases hk
end
/-! ### appends onto a slice that is read alone and has no spare places, or onto an own array -/
section
variable {P : Program} {E : Ent} {Q : Exit → St → Prop} {n : Nat} {env : List (Nat × AV)} {own : List Own} {F : List (Value × AV)} {D : List Deferred} {ops : Array Oper} {rest : List Oper} {c : Code}
variable {A : Foot} {a : Act} {w w' : World} {t tx et ty : TypeId} {pos : String} {af : Array Edge} {d : Nat} {dd : Option Tmp} {gd : Option (Nat × Bool)} {s x : Operand}
end
section
variable {P : Program} {E : Ent} {st : St} {ty : TypeId} {pos : String} {af : Array Edge} {dd : Option Tmp} {gd : Option (Nat × Bool)} {x y z : Operand}
end
end Go.Proofs.Ytkiankpmkglhcaa.J

/- Walks: the first that wait; an event's effects. -/
namespace Go.Proofs.Ytkiankpmkglhcaa.J
open Go Go.RowKit
set_option linter.unusedVariables false
set_option linter.unusedSimpArgs false
set_option maxRecDepth 10000
set_option maxHeartbeats 4000000
theorem BT.wf.take {la : Int} {l : List ItT} (h : (BT.mk la l).wf) (k : Nat) : (BT.mk la (l.take k)).wf := ⟨h.l1, h.it.take k⟩
end Go.Proofs.Ytkiankpmkglhcaa.J

/- Walks: an event's effects, by the program and by the page. -/
namespace Go.Proofs.Ytkiankpmkglhcaa.J
open Go Go.RowKit
set_option linter.unusedVariables false
set_option linter.unusedSimpArgs false
set_option maxRecDepth 10000
set_option maxHeartbeats 4000000
end Go.Proofs.Ytkiankpmkglhcaa.J

/- Walks: binary search among items; an acknowledgement. -/
namespace Go.Proofs.Ytkiankpmkglhcaa.J
open Go Go.RowKit
set_option linter.unusedVariables false
set_option linter.unusedSimpArgs false
set_option maxRecDepth 10000
set_option maxHeartbeats 4000000
end Go.Proofs.Ytkiankpmkglhcaa.J

/- Where two ways meet: what holds of both is told, and the rest is walked once. -/
namespace Go.Proofs.Ytkiankpmkglhcaa.J
open Go Go.RowKit
section
variable {P : Program} {E : Ent} {Q : Exit → St → Prop} {n : Nat} {env : List (Nat × AV)} {own : List Own} {F : List (Value × AV)} {D : List Deferred}
theorem J.cutK {ι : Type} {x y : Code} (ks : List Nat) (ch : ι → List (Nat × AV)) (ow : ι → List Own → List Own) (p : ι → Prop)
    (h : J P E x ⟨n, env, own, F, D⟩ (thenQ (fun s => ∃ j, p j ∧ Wk s ⟨n, ch j ++ pickEnv ks env, ow j own, F, D⟩) Q))
    (k : ∀ i, p i → J P E y ⟨n, ch i ++ pickEnv ks env, ow i own, F, D⟩ Q) : J P E (.seq x y) ⟨n, env, own, F, D⟩ Q :=
  J.seq (h.mono fun e s hq => by
    cases e <;> first | exact hq | skip
    obtain ⟨j, hj, hw⟩ := hq
    exact J.weak hw (k j hj))
end
section
variable {P : Program} {E : Ent} {st : St} {t ty : TypeId} {pos : String} {af : Array Edge} {dd : Option Tmp} {gd : Option (Nat × Bool)}
end
end Go.Proofs.Ytkiankpmkglhcaa.J

/- Walks: steps into values: what is found, what is got. -/
namespace Go.Proofs.Ytkiankpmkglhcaa.J
open Go Go.RowKit
set_option linter.unusedVariables false
set_option linter.unusedSimpArgs false
set_option maxRecDepth 10000
set_option maxHeartbeats 4000000
end Go.Proofs.Ytkiankpmkglhcaa.J

/- Walks: a new item in an owned value. -/
namespace Go.Proofs.Ytkiankpmkglhcaa.J
open Go Go.RowKit
set_option linter.unusedVariables false
set_option linter.unusedSimpArgs false
set_option maxRecDepth 10000
set_option maxHeartbeats 4000000
def V.stp (u : V) (s : StT) (last : Bool) : V × Nat × Int :=
  if (u.fnd s).2 = 0 then (u, (u.fnd s).1, 0) else if last = true then (if (u.grw s (u.fnd s).1 (u.fnd s).2).2 = 0 then (u.ins s (u.grw s (u.fnd s).1 (u.fnd s).2).1 .nil, (u.grw s (u.fnd s).1 (u.fnd s).2).1, 0) else (u, (u.grw s (u.fnd s).1 (u.fnd s).2).1, (u.grw s (u.fnd s).1 (u.fnd s).2).2))
  else (u, (u.fnd s).1, (u.fnd s).2)
def GrowR (z : At) (s : StT) : AV → List Own → Prop := fun x o => ∃ kv iv ok oi, x = .tup [.c (.int .i64 ((z.u.stp s true).2.1 : Int)), .c (.int .i64 (z.u.stp s true).2.2)] ∧ o = [.box z.b (holeC z (z.u.stp s true).1 kv iv), ok, oi] ∧ VTr (z.u.stp s true).1 kv iv ok oi
theorem GrowR.no {z : At} {s : StT} {i m : Nat} {e f : Int} {ok oi : Own} {o : List Own} (h : z.u.fnd s = (i, e)) (he : e ≠ 0) (hg : z.u.grw s i e = (m, f)) (hf : f ≠ 0) (ho : o = [.box z.b (holeC z z.u z.kv z.iv), ok, oi]) (hV : VTr z.u z.kv z.iv ok oi) : GrowR z s (.tup [.c (.int .i64 (m : Int)), .c (.int .i64 f)]) o := by
  have : z.u.stp s true = (z.u, m, f) := by simp [V.stp, h, he, hg, hf]
  exact ⟨z.kv, z.iv, ok, oi, by rw [this], by rw [this]; exact ho, by rw [this]; exact hV⟩
theorem GrowR.yes {z : At} {s : StT} {i m : Nat} {e : Int} {kv iv : Value} {ok oi : Own} {o : List Own} (h : z.u.fnd s = (i, e)) (he : e ≠ 0) (hg : z.u.grw s i e = (m, 0)) (ho : o = [.box z.b (holeC z z.u kv iv), ok, oi]) (hV : VTr (z.u.ins s m .nil) kv iv ok oi) : GrowR z s (.tup [.c (.int .i64 (m : Int)), .c (.int .i64 0)]) o := by
  have : z.u.stp s true = (z.u.ins s m .nil, m, 0) := by simp [V.stp, h, he, hg]
  exact ⟨kv, iv, ok, oi, by rw [this], by rw [this]; exact ho, by rw [this]; exact hV⟩
def nilC : List AV := [.c (.int .i64 0), .c (.int .u64 0), .c (str []), .c (.slice none 0 0), .c (.slice none 0 0)]
theorem OwnEq.noArr (e : ETy) : OwnEq (.grp [.arr (.slice none 0 0) e [], .grp []]) (.grp []) := ⟨fun b => by simp [Own.fp, Own.fpl, arrFp], fun w A => by
  simp only [ok_grp, List.forall_mem_cons, List.not_mem_nil, false_implies, implies_true, and_true, iff_true]
  exact .inl ⟨_, rfl, rfl⟩⟩
theorem nil_slTr (e : ETy) : Tr (.sl true false e []) (.slice none 0 0) (.grp []) := .sl (us := []) (o := .grp []) rfl rfl (fun _ h => by cases h) (fun _ h => by cases h) rfl (by simp) (.nil (.refl _)) (OwnEq.noArr e)
theorem nil_VTr : VTr .nil (.slice none 0 0) (.slice none 0 0) (.grp []) (.grp []) := ⟨rfl, rfl, nil_slTr eStr, nil_slTr eV⟩
end Go.Proofs.Ytkiankpmkglhcaa.J

/- Walks: a part of a value is another one. -/
namespace Go.Proofs.Ytkiankpmkglhcaa.J
open Go Go.RowKit
set_option linter.unusedVariables false
set_option linter.unusedSimpArgs false
set_option maxRecDepth 10000
set_option maxHeartbeats 4000000
theorem Reown.step {cur ok bx ctx kids ok3 oi3 ob oa : Own} (h : Reown [kids] [ok3, oi3, ob, oa]) : Reown [cur, ok, bx, ctx, kids] [bx, ok3, oi3, .grp [cur, ok, ob, oa, ctx]] := by
  refine (Reown.left (c := [cur, ok, bx, ctx]) h).trans ⟨fun y => by simp only [fps_cons, fps_nil, fp_grp, List.count_append, List.count_nil, List.cons_append, List.nil_append]; omega, fun w A h => ?_⟩
  simp only [List.forall_mem_cons, List.cons_append, List.nil_append, ok_grp, List.not_mem_nil, false_implies, implies_true, and_true] at h ⊢
  obtain ⟨q1, q2, q3, q4, q5, q6, q7, q8⟩ := h
  exact ⟨q3, q5, q6, q1, q2, q7, q8, q4⟩
theorem Reown.fin {cur ok oi ctx okx oix : Own} {l : List Own} (h : Reown [cur, okx, oix, ctx] l) : Reown [cur, ok, oi, ctx, okx, oix] l := by
  refine Reown.trans ⟨fun y => by simp only [fps_cons, fps_nil, List.count_append, List.count_nil]; omega, fun w A h => ?_⟩ h
  simp only [List.forall_mem_cons, List.not_mem_nil, false_implies, implies_true, and_true] at h ⊢
  exact ⟨h.1, h.2.2.2.2.1, h.2.2.2.2.2, h.2.2.2.1⟩
end Go.Proofs.Ytkiankpmkglhcaa.J

/- Walks: the page sets a part of a value. -/
namespace Go.Proofs.Ytkiankpmkglhcaa.J
open Go Go.RowKit
set_option linter.unusedVariables false
set_option linter.unusedSimpArgs false
set_option maxRecDepth 10000
set_option maxHeartbeats 4000000
def SetR (w : V × Int) : AV → List Own → Prop := fun x o => ∃ kw iw okw oiw, x = .tup [.agg (w.1.raw kw iw), .c (.int .i64 w.2)] ∧ o = [okw, oiw] ∧ VTr w.1 kw iw okw oiw
theorem SetR.no {w : V × Int} {e : Int} (h : w = (.nil, e)) : SetR w (.tup [.agg nilC, .c (.int .i64 e)]) [.grp [], .grp []] := ⟨_, _, _, _, by rw [h]; rfl, rfl, by rw [h]; exact nil_VTr⟩
theorem SetR.yes {w : V × Int} {u : V} {kw iw : Value} {okw oiw : Own} {ys : List AV} {e : Int} (h : w = (u, e)) (hy : ys = u.raw kw iw) (hV : VTr u kw iw okw oiw) : SetR w (.tup [.agg ys, .c (.int .i64 e)]) [okw, oiw] := ⟨kw, iw, okw, oiw, by rw [h, hy], rfl, by rw [h]; exact hV⟩
theorem Reown.hd2 {a b : Own} {c l : List Own} (h : Reown [a, b] c) : Reown (a :: b :: l) (c ++ l) :=
  (Reown.perm (List.perm_append_comm (l₁ := [a, b]) (l₂ := l))).trans ((Reown.left (c := l) h).trans (Reown.perm List.perm_append_comm))
theorem Reown.put (arrI ok3 oi3 ob oa okx oix : Own) : Reown [arrI, ok3, oi3, ob, oa, okx, oix] [.grp [arrI, .grp [ob, .grp [.grp [okx, oix], oa]]]] := by
  refine ⟨fun y => by simp only [fps_cons, fps_nil, fp_grp, List.count_append, List.count_nil]; omega, fun w A h => ?_⟩
  simp only [List.forall_mem_cons, ok_grp, List.not_mem_nil, false_implies, implies_true, and_true] at h ⊢
  obtain ⟨q1, q2, q3, q4, q5, q6, q7⟩ := h
  exact ⟨q1, q4, ⟨q6, q7⟩, q5⟩
theorem VTr.setAt {u x : V} {kv iv kx ix : Value} {ok ob oa okx oix : Own} {cs : List (List AV)} {u1 u3 : List Value} {i : Nat} (huw : u.wf) (hk1 : kv.oneCell' = true) (hi1 : iv.oneCell' = true) (hks : Tr (.sl true false eStr (keysAV u.keys)) kv ok)
    (hlt : i < u.items.length) (hcl : cs.length = u.items.length) (h5 : ∀ x ∈ cs, x.length = 5) (t1 : TrL (V.css true (u.items.take i)).flatten u1 ob) (t3 : TrL (V.css true (u.items.drop (i + 1))).flatten u3 oa) (f1 : (cs.take i).flatten = u1.map AV.c) (f3 : (cs.drop (i + 1)).flatten = u3.map AV.c)
    (a1 : u1.all (·.oneCell') = true) (a3 : u3.all (·.oneCell') = true) (hx : VTr x kx ix okx oix) : VTr (u.setAt i x) kv iv ok (.grp [.arr iv eV (cs.set i (x.raw kx ix)), .grp [ob, .grp [.grp [okx, oix], oa]]]) := by
  have hclt : i < cs.length := by omega
  have hflat : (cs.set i (x.raw kx ix)).flatten = (u1 ++ (x.vals kx ix ++ u3)).map AV.c := by
    rw [set_parts hclt, List.flatten_append, List.flatten_cons, f1, f3, V.raw_eq, List.map_append, List.map_append]
  have h5' : ∀ z ∈ cs.set i (x.raw kx ix), z.length = 5 := fun z hz => (List.mem_or_eq_of_mem_set hz).elim (h5 z) fun e => e ▸ rfl
  have hits : u.items.length * 80 ≤ reach := by obtain ⟨k, b, t, ks, is⟩ := u; exact huw.inv.2.2.2.2.1
  have htl : TrL (V.css true (u.items.set i x)).flatten (u1 ++ (x.vals kx ix ++ u3)) (.grp [ob, .grp [.grp [okx, oix], oa]]) := by
    rw [set_parts hlt, V.css_append, List.flatten_append, V.css, List.flatten_cons]
    exact t1.append (hx.trL.append t3 (.refl _)) (.refl _)
  have hIt : Tr (.sl true false eV (V.css true (u.items.set i x))) iv (.grp [.arr iv eV (cs.set i (x.raw kx ix)), .grp [ob, .grp [.grp [okx, oix], oa]]]) :=
    items_tr hflat (by simp [hcl]) h5' (by rw [List.all_append, List.all_append, a1, hx.ones, a3]; rfl) (by simpa using hits) htl
  exact ⟨hk1, hi1, hks, hIt⟩
end Go.Proofs.Ytkiankpmkglhcaa.J

/- Regions that draw their order, part by part: single operations that all later ones wait for, and groups of quiet ones. -/
namespace Go.Proofs.Ytkiankpmkglhcaa.J
open Go Go.RowKit
set_option linter.unusedVariables false
set_option linter.unusedSimpArgs false
/-- Each operation behind the k-th waits for one from the k-th on. -/
def botOk (k : Nat) (l : List Oper) : Bool := (List.range' (k + 1) (l.length - (k + 1))).all fun j => (List.range' k (j - k)).any fun i => hasDep l j i
/-- Each operation from k on, ahead of m, is one that a later one, up to m, waits for; and all behind m wait for one from m on. -/
def grpOk (k m : Nat) (l : List Oper) : Bool := Nat.beq m l.length || ((List.range' k (m - k)).all (fun j => (List.range' (j + 1) (m - j)).any fun i => hasDep l i j) && botOk m l)
structure Done (k : Nat) (ops : Array Oper) (L : Array Bool) : Prop where
  size : L.size = ops.size
  yes : ∀ i, i < k → L.getD i false = true
  no : ∀ i, k ≤ i → L.getD i false = false
/-- The rest of a region, of which the first k operations are done. -/
def JA (P : Program) (E : Ent) (ops : Array Oper) (k : Nat) (st : St) (Q : Exit → St → Prop) : Prop :=
  ∀ fuel L a w, Done k ops L → k ≤ ops.size → ops.size - k ≤ fuel → Sat E st a w → wpAnyIn (fen E.rd) 0 P .any ops (lift E Q) fuel L a w
section
variable {P : Program} {E : Ent} {Q : Exit → St → Prop} {n : Nat} {env : List (Nat × AV)} {own : List Own} {F : List (Value × AV)} {D : List Deferred} {ops : Array Oper} {st : St}
theorem Oper.wpIn_monoQ {Fn : Fence} {m : Nat} {o : Oper} {a : Act} {w : World} {K : Act → World → Prop} {Q Q' : Exit → Act → World → Prop} (hp : ∀ ch a w, Q (.panic ch) a w → Q' (.panic ch) a w) (hl : LetsOut Q → LetsOut Q')
    (hh : o.wpIn Fn m P a w K Q) : o.wpIn Fn m P a w K Q' := by
  unfold Oper.wpIn at *
  refine ⟨hh.1, ?_⟩
  have hh := hh.2
  generalize (o.semAt Fn.round a.eval).run P w = r at *
  cases r with
  | ok x w' =>
    cases x <;> simp only [Oper.uponIn] at hh ⊢ <;>
      first
        | exact hh
        | exact ⟨hh.1, CallsIn.mono hh.2 (fun e w'' he => by cases e <;> first | exact he | exact hp _ _ _ he | exact hl he)⟩
        | exact ⟨hh.1, RoundIn.mono hh.2 (fun e w'' he => by cases e <;> first | exact he | exact hp _ _ _ he | exact hl he)⟩
  | halt x w' => cases x <;> simp only [Oper.uponIn] at hh ⊢ <;> first | exact hh | exact hp _ _ _ hh
theorem JA.fin (k : Nat) (hk : k = ops.size) (h : Q .normal st) : JA P E ops k st Q := fun fuel L a w hD hle hf hs => by
  have hnil : Region.ready .any ops L = [] := by
    rw [List.eq_nil_iff_forall_not_mem]
    intro i hi
    obtain ⟨hlt, o, ho, hL, _⟩ := mem_ready hi
    rw [getD_same (by rw [hD.size]; exact hlt), hD.yes i (by omega)] at hL
    cases hL
  cases fuel with
  | zero => exact ⟨hnil, st, h, hs⟩
  | succ fuel => exact ⟨fun _ => ⟨st, h, hs⟩, fun i hi => by rw [hnil] at hi; cases hi⟩
theorem bot_dep {k j : Nat} (hb : botOk k ops.toList = true) (hk : k < j) (hj : j < ops.size) : ∃ o, ops[j]? = some o ∧ ∃ e ∈ o.after, Region.binds .any e = true ∧ k ≤ e.on ∧ e.on < j := by
  unfold botOk at hb
  have := List.all_eq_true.1 hb j (by simp [List.mem_range']; exact ⟨j - (k + 1), by omega, by omega⟩)
  obtain ⟨i, hi, hd⟩ := List.any_eq_true.1 this
  simp [List.mem_range'] at hi
  obtain ⟨z, hz, rfl⟩ := hi
  obtain ⟨o, ho, e, he, hbe, hon⟩ := hasDep_iff hd
  exact ⟨o, by simpa using ho, e, he, hbe, by omega, by omega⟩
theorem lift_q {K : St → Prop} {e : Exit} {a : Act} {w : World} (he : e ≠ .normal) (h : lift E (thenQ K Q) e a w) : lift E Q e a w := by
  obtain ⟨s, h1, h2⟩ := h
  refine ⟨s, ?_, h2⟩
  cases e <;> first | exact h1 | exact absurd rfl he
/-- The next operation, that all later ones wait for. -/
theorem JA.one {k : Nat} {o : Oper} (ho : ops[k]? = some o) (hbk : backB 0 ops.toList = true) (hb : botOk k ops.toList = true) (h : JL P E ops [o] st (thenQ (fun s => JA P E ops (k + 1) s Q) Q)) : JA P E ops k st Q := fun fuel L a w hD hle hf hs => by
  have hlt : k < ops.size := (Array.getElem?_eq_some_iff.1 ho).1
  obtain ⟨fuel, rfl⟩ : ∃ f, fuel = f + 1 := ⟨fuel - 1, by omega⟩
  have hmem : k ∈ Region.ready .any ops L := ready_mem hD.size ho (by rw [getD_same (by rw [hD.size]; exact hlt)]; exact hD.no k (Nat.le_refl _)) fun e he hbe => hD.yes _ (by
    have := backB_lt hbk (i := k) (o := o) (by simpa using ho) e he hbe
    omega)
  refine ⟨fun hr => (by rw [hr] at hmem; cases hmem), fun i hi => ?_⟩
  obtain ⟨hil, o', ho', hL, hdeps⟩ := mem_ready hi
  have hik : i = k := by
    have h1 : k ≤ i := by
      apply Nat.le_of_not_lt
      intro h
      rw [getD_same (by rw [hD.size]; exact hil), hD.yes i h] at hL; cases hL
    by_cases he : i = k
    · exact he
    · obtain ⟨o2, ho2, e, he, hbe, h3, h4⟩ := bot_dep hb (by omega : k < i) hil
      rw [ho'] at ho2; cases ho2
      have := hdeps e he hbe
      rw [hD.no _ h3] at this; cases this
  subst hik
  have hl := h a w hs
  have hK : ∀ a' w', wpListIn (fen E.rd) 0 P ops (lift E (thenQ (fun s => JA P E ops (i + 1) s Q) Q)) [] a' w' → wpAnyIn (fen E.rd) 0 P .any ops (lift E Q) fuel (L.setIfInBounds i true) a' w' := fun a' w' ⟨s, hs1, hs2⟩ =>
    hs1 fuel _ a' w' ⟨by simpa using hD.size, fun j hj => by rw [getD_set _ _ _ (by rw [hD.size]; omega)]; split; rfl; exact hD.yes j (by omega), fun j hj => by rw [getD_set _ _ _ (by rw [hD.size]; omega), if_neg (by omega)]; exact hD.no j (by omega)⟩ (by omega) (by omega) hs2
  unfold wpOpIn
  simp only [ho]
  unfold wpListIn at hl
  split
  · rename_i hw
    rw [if_pos hw] at hl
    exact Oper.wpIn_monoQ (fun ch a w h => lift_q (by intro h; cases h) h) (fun h => by first | exact fun a w => lift_q (by intro h; cases h) (h a w) | exact h) (Oper.wpIn_mono hK hl)
  · rename_i hw
    rw [if_neg hw] at hl
    exact ⟨hl.1, hK _ _ hl.2⟩
/-- What an operation may know: what the operations of its group that it waits for have made, and what was there. -/
def EnvP (b : Nat) (o : Oper) (don env env' : List (Nat × AV)) : Prop := ∀ s x, lk env' s = some x → (∃ j, depsOk o [b + j] = true ∧ don[j]? = some (s, x)) ∨ lk env s = some x
inductive AnyP (P : Program) (E : Ent) (ops : Array Oper) (n : Nat) (env : List (Nat × AV)) (own : List Own) (F : List (Value × AV)) (D : List Deferred) (b : Nat) : List Oper → List (Nat × AV) → List (Nat × AV) → Prop
  | nil (don : List (Nat × AV)) : AnyP P E ops n env own F D b [] don don
  | cons {o : Oper} {os : List Oper} {don all : List (Nat × AV)} {d : Nat} {x : AV} {env' : List (Nat × AV)} (hd : o.dst = some d) (hn : Nat.blt d n = true) (he : EnvP b o don env env')
      (hs : Step P E ops ⟨n, env', own, F, D⟩ o x) (h : AnyP P E ops n env own F D b os (don ++ [(d, x)]) all) : AnyP P E ops n env own F D b (o :: os) don all
theorem AnyP.get {b : Nat} {os : List Oper} {don all : List (Nat × AV)} (h : AnyP P E ops n env own F D b os don all) : (∃ r, all = don ++ r ∧ r.length = os.length) ∧
    ∀ j o, os[j]? = some o → ∃ d x env', all[don.length + j]? = some (d, x) ∧ o.dst = some d ∧ d < n ∧ EnvP b o (all.take (don.length + j)) env env' ∧ Step P E ops ⟨n, env', own, F, D⟩ o x := by
  induction h with
  | nil don => exact ⟨⟨[], by simp, rfl⟩, fun j o h => by simp at h⟩
  | cons hd hn he hs _ ih =>
    rename_i o os don all d x env' _
    obtain ⟨⟨r, rfl, hr⟩, hk⟩ := ih
    refine ⟨⟨(d, x) :: r, by simp, by simp [hr]⟩, fun j o' ho' => ?_⟩
    cases j with
    | zero =>
      simp at ho'; subst ho'
      refine ⟨d, x, env', by simp, hd, blt_lt hn, ?_, hs⟩
      have : (don ++ [(d, x)] ++ r).take (don.length + 0) = don := by simp
      rw [this]; exact he
    | succ j =>
      have := hk j o' (by simpa using ho')
      rw [List.length_append, List.length_singleton, show don.length + 1 + j = don.length + (j + 1) by omega] at this
      exact this
/-- A group of quiet operations, in whatever order. -/
theorem JA.par {k m : Nat} {g : List Oper} {all : List (Nat × AV)} (hkm : k ≤ m) (hml : m ≤ ops.size) (hg : (ops.toList.drop k).take (m - k) = g) (hnd : nodupB (dsts g) = true) (hbk : backB 0 ops.toList = true) (hgr : grpOk k m ops.toList = true)
    (hany : AnyP P E ops n (dropEnv (dsts g) env) own F D k g [] all) (h : JA P E ops m ⟨n, all ++ dropEnv (dsts g) env, own, F, D⟩ Q) : JA P E ops k ⟨n, env, own, F, D⟩ Q := fun fuel₀ L₀ a₀ w₀ hD₀ hle₀ hf₀ ⟨A₀, hA₀⟩ => by
  obtain ⟨⟨_, hall0, hlen⟩, hst⟩ := hany.get
  rw [List.nil_append] at hall0
  subst hall0
  simp only [List.length_nil, Nat.zero_add] at hst
  have hgl : g.length = m - k := by rw [← hg]; simp; omega
  have hgi : ∀ j o, k ≤ j → j < m → (ops[j]? = some o ↔ g[j - k]? = some o) := fun j o h1 h2 => by
    rw [← hg, List.getElem?_take_of_lt (by omega), List.getElem?_drop, show k + (j - k) = j by omega]; simp
  let Inv : Array Bool → Foot → Act → World → Prop := fun L A a w => L.size = ops.size ∧ SatA E A ⟨n, dropEnv (dsts g) env, own, F, D⟩ a w ∧
    (∀ i d x, all[i]? = some (d, x) → L.getD (k + i) false = true → Rd w A (a.tmps.getD d undef) x) ∧
    (∀ i o, ops[i]? = some o → L.getD i false = true → ∀ e ∈ o.after, Region.binds .any e = true → L.getD e.on false = true) ∧
    (∀ i, i < k → L.getD i false = true) ∧ (∀ i, m ≤ i → L.getD i false = false)
  have hdone : ∀ fuel L A a w, ops.size - m ≤ fuel → (∀ i, k ≤ i → i < m → L.getD i false = true) → Inv L A a w → wpAnyIn (fen E.rd) 0 P .any ops (lift E Q) fuel L a w := by
    intro fuel L A a w hf hall ⟨h0, h1, h2, h3, h4, h5⟩
    refine h fuel L a w ⟨h0, fun i hi => ?_, h5⟩ hml hf ⟨A, h1.size, h1.defers, h1.keep, h1.hp, fun s x hl => ?_, h1.facts⟩
    · by_cases hik : i < k
      · exact h4 i hik
      · exact hall i (by omega) hi
    · rw [lk_append] at hl
      rcases hl with hl | ⟨_, hl⟩
      · obtain ⟨i, hi⟩ := List.getElem?_of_mem (lk_mem _ _ _ hl)
        have hil : i < m - k := by have := (List.getElem?_eq_some_iff.1 hi).1; omega
        exact h2 i s x hi (hall _ (by omega) (by omega))
      · exact h1.env s x hl
  have key : ∀ fuel L A a w, cnt m (fun i => !L.getD i true) + (ops.size - m) ≤ fuel → Inv L A a w → wpAnyIn (fen E.rd) 0 P .any ops (lift E Q) fuel L a w := by
    intro fuel
    induction fuel with
    | zero =>
      intro L A a w hc hinv
      refine hdone 0 L A a w (by omega) (fun i _ hi => ?_) hinv
      have h0 : cnt m (fun i => !L.getD i true) = 0 := by omega
      have := List.countP_eq_zero.1 h0 i (by simpa using hi)
      rw [← getD_same (by rw [hinv.1]; omega)]
      simpa using this
    | succ fuel ih =>
      intro L A a w hc hinv
      by_cases hall : ∀ i, k ≤ i → i < m → L.getD i false = true
      · exact hdone _ L A a w (by omega) hall hinv
      have hinv' := hinv
      obtain ⟨h0, h1, h2, h3, h4, h5⟩ := hinv
      refine ⟨fun hr => ?_, fun i hi => ?_⟩
      · exfalso
        apply hall
        intro i
        induction i using Nat.strongRecOn with
        | _ i ihi =>
          intro hki hlt
          cases hL : L.getD i false with
          | true => rfl
          | false =>
            exfalso
            obtain ⟨o, ho⟩ : ∃ o, ops[i]? = some o := ⟨_, Array.getElem?_eq_getElem (by omega)⟩
            have : i ∈ Region.ready .any ops L := ready_mem h0 ho (by rw [getD_same (by omega)]; exact hL) fun e he hb => by
              have hon := backB_lt hbk (i := i) (o := o) (by simpa using ho) e he hb
              by_cases hek : e.on < k
              · exact h4 _ hek
              · exact ihi e.on (by omega) (by omega) (by omega)
            rw [hr] at this
            cases this
      · obtain ⟨hlt, o, ho, hunl, hdeps⟩ := mem_ready hi
        have hunl' : L.getD i false = false := by rw [← getD_same (by omega)]; exact hunl
        have hki : k ≤ i := by
          apply Nat.le_of_not_lt
          intro h
          rw [h4 i h] at hunl'; cases hunl'
        have him : i < m := by
          apply Nat.lt_of_not_le
          intro hge
          apply hall
          unfold grpOk at hgr
          have hne : Nat.beq m ops.toList.length = false := by
            cases hb : Nat.beq m ops.toList.length with
            | false => rfl
            | true => have := Nat.eq_of_beq_eq_true hb; simp at this; omega
          rw [hne, Bool.false_or, Bool.and_eq_true] at hgr
          obtain ⟨t1, t2⟩ := hgr
          have hm : i = m := by
            by_cases he : i = m
            · exact he
            · obtain ⟨o2, ho2, e, he, hbe, h6, h7⟩ := bot_dep t2 (by omega : m < i) hlt
              rw [ho] at ho2; cases ho2
              have := hdeps e he hbe
              rw [h5 _ h6] at this; cases this
          subst hm
          have pre : ∀ d j, i - j = d → k ≤ j → j < i → L.getD j false = true := by
            intro d
            induction d using Nat.strongRecOn with
            | _ d ihd =>
              intro j h6 h7 h8
              have := List.all_eq_true.1 t1 j (by simp [List.mem_range']; exact ⟨j - k, by omega, by omega⟩)
              obtain ⟨i', hi', hd⟩ := List.any_eq_true.1 this
              simp [List.mem_range'] at hi'
              obtain ⟨z, hz, rfl⟩ := hi'
              obtain ⟨o', ho', e, he, hb, hon⟩ := hasDep_iff hd
              rw [← hon]
              have ho'' : ops[j + 1 + z]? = some o' := by simpa using ho'
              by_cases he' : j + 1 + z = i
              · rw [he', ho] at ho''
                cases ho''
                exact hdeps e he hb
              · exact h3 _ o' ho'' (ihd (i - (j + 1 + z)) (by omega) _ rfl (by omega) (by omega)) e he hb
          exact fun j hj1 hj2 => pre _ j rfl hj1 hj2
        have ho' : g[i - k]? = some o := (hgi i o hki him).1 ho
        have hcnt : cnt m (fun j => !(L.setIfInBounds i true).getD j true) + (ops.size - m) ≤ fuel := by
          have := cnt_set (fun i => !L.getD i true) (fun j => !(L.setIfInBounds i true).getD j true) i (fun j hj => by rw [getD_set _ _ _ (by omega), if_neg hj]) (by simp [hunl]) (by rw [getD_set _ _ _ (by omega), if_pos rfl]; rfl) m
          rw [if_pos him] at this
          omega
        have hclo : ∀ j o', ops[j]? = some o' → (L.setIfInBounds i true).getD j false = true → ∀ e ∈ o'.after, Region.binds .any e = true → (L.setIfInBounds i true).getD e.on false = true := by
          intro j o' ho2 hLj e he hb
          rw [getD_set _ _ _ (by omega)] at hLj ⊢
          split
          · rfl
          · by_cases hji : j = i
            · subst hji; rw [ho] at ho2; cases ho2; exact hdeps e he hb
            · rw [if_neg hji] at hLj; exact h3 j o' ho2 hLj e he hb
        obtain ⟨d, x, env', hsx, hd, hdn, hds, hstep⟩ := hst (i - k) o ho'
        have hsat : SatA E A ⟨n, env', own, F, D⟩ a w := by
          refine ⟨h1.size, h1.defers, h1.keep, h1.hp, fun s y hl => ?_, h1.facts⟩
          rcases hds s y hl with ⟨j, hj, hp⟩ | h
          · obtain ⟨e, he, hb, hon⟩ := depsOk_get hj (List.mem_singleton.2 rfl)
            have hLj := hdeps e he hb
            rw [hon] at hLj
            refine h2 j s y ?_ hLj
            rw [List.getElem?_take] at hp
            split at hp
            · exact hp
            · cases hp
          · exact h1.env s y h
        have hother : ∀ j d' x', all[j]? = some (d', x') → j ≠ i - k → d ≠ d' := by
          intro j d' x' hj hji hdd
          subst hdd
          have hjlt : j < g.length := by have := (List.getElem?_eq_some_iff.1 hj).1; omega
          obtain ⟨oj, hoj⟩ : ∃ oj, g[j]? = some oj := ⟨_, List.getElem?_eq_getElem hjlt⟩
          obtain ⟨dj, xj, _, hsj, hdj, _⟩ := hst j oj hoj
          rw [hsj] at hj; cases hj
          exact hji (nodupB_ne hnd hoj ho' hdj hd)
        have hput : ∀ (v : Value) (w' : World) (A' : Foot), Frm w A w' A' → SatA E A' ⟨n, env', own, F, D⟩ a w' → Rd w' A' v x →
            wpAnyIn (fen E.rd) 0 P .any ops (lift E Q) fuel (L.setIfInBounds i true) (a.put o.dst v) w' := by
          intro v w' A' hf hs' hv
          refine ih _ A' _ w' hcnt ⟨by simpa using h0, ⟨?_, by rw [hd]; exact hs'.defers, hs'.keep, hs'.hp, fun s y hl => ?_, hs'.facts⟩, fun j d' x' hj hLj => ?_, hclo, fun j hj => ?_, fun j hj => ?_⟩
          · have := hs'.size; simp only [Act.put, hd, Array.size_setIfInBounds]; exact this
          · rw [hd]
            have hne : d ≠ s := by
              intro hds'
              subst hds'
              have := (lk_filter (fun k => !((dsts g).any (Nat.beq k))) env d y hl).2
              simp only [Bool.not_eq_true'] at this
              have hm := List.any_eq_false.1 this d (dsts_mem ho' hd)
              simp at hm
            rw [put_getD_ne hne]
            exact hf _ _ (h1.env s y hl)
          · rw [getD_set _ _ _ (by omega)] at hLj
            by_cases hji : j = i - k
            · subst hji
              rw [hsx] at hj; cases hj
              rw [hd, put_getD_same (by have := hs'.size; simp only at this; rw [this]; exact hdn)]
              exact hv
            · rw [if_neg (by omega)] at hLj
              rw [hd, put_getD_ne (hother j d' x' hj hji)]
              exact hf _ _ (h2 j d' x' hj hLj)
          · rw [getD_set _ _ _ (by omega)]
            split
            · rfl
            · exact h4 j hj
          · rw [getD_set _ _ _ (by omega), if_neg (by omega)]; exact h5 j hj
        have hs := hstep A a w hsat (wpAnyIn (fen E.rd) 0 P .any ops (lift E Q) fuel (L.setIfInBounds i true)) (lift E Q) hput
        unfold wpOpIn
        simp only [ho]
        split
        · rename_i hw; rw [if_pos hw] at hs; exact hs
        · rename_i hw; rw [if_neg hw] at hs; exact ⟨fun _ _ => trivial, hs⟩
  have hc0 : cnt m (fun i => !L₀.getD i true) + (ops.size - m) ≤ fuel₀ := by
    have hcm : ∀ j, j ≤ m → cnt j (fun i => !L₀.getD i true) ≤ j - k := by
      intro j
      induction j with
      | zero => intro _; simp [cnt]
      | succ j ihj =>
        intro hj
        have := ihj (by omega)
        rw [cnt_succ]
        by_cases hjk : j < k
        · have h1 : L₀.getD j true = true := by rw [getD_same (by rw [hD₀.size]; omega)]; exact hD₀.yes j hjk
          simp only [h1, Bool.not_true, Bool.false_eq_true, if_false]
          omega
        · split <;> omega
    have := hcm m (Nat.le_refl _)
    omega
  refine key fuel₀ L₀ A₀ a₀ w₀ hc0 ⟨hD₀.size, ⟨hA₀.size, hA₀.defers, hA₀.keep, hA₀.hp, fun s y hl => ?_, hA₀.facts⟩, fun i d x hi hL => ?_, fun i o ho hL e he hb => ?_, hD₀.yes, fun i hi => hD₀.no i (by omega)⟩
  · exact hA₀.env s y (lk_filter (fun k => !((dsts g).any (Nat.beq k))) env s y hl).1
  · rw [hD₀.no _ (by omega)] at hL; cases hL
  · have hik : i < k := by
      apply Nat.lt_of_not_le
      intro h
      rw [hD₀.no i h] at hL; cases hL
    have := backB_lt hbk (i := i) (o := o) (by simpa using ho) e he hb
    exact hD₀.yes _ (by omega)
/-- A group, one by one; the latest first. -/
def ParK (P : Program) (E : Ent) (ops : Array Oper) (n : Nat) (env : List (Nat × AV)) (own : List Own) (F : List (Value × AV)) (D : List Deferred) (b i : Nat) (os : List Oper) (don : List (Nat × AV)) (K : List (Nat × AV) → Prop) : Prop :=
  i = b + don.length → ∃ all, AnyP P E ops n env own F D b os don.reverse all ∧ K all.reverse
theorem selP_get {o : Oper} {sl : List Nat} {env : List (Nat × AV)} {b : Nat} : ∀ {don : List (Nat × AV)} {i : Nat}, i = b + don.length → chk o sl don i = true → EnvP b o don.reverse env (sel sl don ++ env)
  | [], i, _, _ => fun s x h => .inr (by simpa [sel] using h)
  | (s0, x0) :: don, i, hi, h => fun s x hl => by
    have hi' : i - 1 = b + don.length := by simp at hi; omega
    have hrec : chk o sl don (i - 1) = true → lk (sel sl don ++ env) s = some x → (∃ j, depsOk o [b + j] = true ∧ ((s0, x0) :: don).reverse[j]? = some (s, x)) ∨ lk env s = some x := fun hc hl => by
      rcases selP_get (don := don) (i := i - 1) hi' hc s x hl with ⟨j, h1, h2⟩ | h
      · exact .inl ⟨j, h1, by rw [List.reverse_cons, List.getElem?_append_left (List.getElem?_eq_some_iff.1 h2).1]; exact h2⟩
      · exact .inr h
    unfold sel at hl
    unfold chk at h
    split at hl
    · rename_i hb
      rw [hb] at h
      simp only [Bool.and_eq_true] at h
      rcases lk_cons hl with ⟨rfl, rfl⟩ | ⟨_, hl⟩
      · exact .inl ⟨don.length, by rw [← hi']; exact h.1, by rw [List.reverse_cons, List.getElem?_append_right (by simp)]; simp⟩
      · exact hrec h.2 hl
    · rename_i hb
      rw [hb] at h
      exact hrec h hl
theorem ParK.nil {b i : Nat} {don : List (Nat × AV)} {K : List (Nat × AV) → Prop} (h : K don) : ParK P E ops n env own F D b i [] don K := fun _ => ⟨don.reverse, .nil _, by rw [List.reverse_reverse]; exact h⟩
theorem ParK.cons {b i : Nat} {o : Oper} {os : List Oper} {don : List (Nat × AV)} {K : List (Nat × AV) → Prop} {d : Nat} {x : AV} (sl : List Nat) (hd : o.dst = some d) (hn : Nat.blt d n = true) (hc : chk o sl don i = true)
    (hs : Step P E ops ⟨n, sel sl don ++ env, own, F, D⟩ o x) (h : ParK P E ops n env own F D b (i + 1) os ((d, x) :: don) K) : ParK P E ops n env own F D b i (o :: os) don K := fun hi => by
  obtain ⟨all, h1, h2⟩ := h (by simp; omega)
  rw [List.reverse_cons] at h1
  exact ⟨all, .cons hd hn (selP_get hi hc) hs h1, h2⟩
theorem lk_rev {l : List (Nat × AV)} (hu : ∀ (a b : Nat) (x y : AV) (s : Nat), l[a]? = some (s, x) → l[b]? = some (s, y) → a = b) {s : Nat} {x : AV} (h : lk l s = some x) : lk l.reverse s = some x := by
  have h3 : (s, x) ∈ l.reverse := by simpa using lk_mem _ _ _ h
  cases h4 : lk l.reverse s with
  | none => exact absurd h3 (lk_none _ _ h4 x)
  | some y =>
    have h5 : (s, y) ∈ l := by simpa using lk_mem _ _ _ h4
    obtain ⟨a, ha⟩ := List.getElem?_of_mem (lk_mem _ _ _ h)
    obtain ⟨b, hb⟩ := List.getElem?_of_mem h5
    have := hu a b x y s ha hb
    subst this
    rw [ha] at hb; cases hb; rfl
theorem lk_rev_none {l : List (Nat × AV)} {s : Nat} (h : lk l.reverse s = none) : lk l s = none := by
  cases h4 : lk l s with
  | none => rfl
  | some y => exact absurd (by simpa using lk_mem _ _ _ h4) (lk_none _ _ h y)
/-- A group of the form in which the walks use it. -/
theorem JA.grp {k : Nat} (m : Nat) {g : List Oper} (hkm : Nat.ble k m = true) (hml : Nat.ble m ops.size = true) (hg : (ops.toList.drop k).take (m - k) = g) (hnd : nodupB (dsts g) = true) (hbk : backB 0 ops.toList = true) (hgr : grpOk k m ops.toList = true)
    (h : ParK P E ops n (dropEnv (dsts g) env) own F D k k g [] fun steps => JA P E ops m ⟨n, steps ++ dropEnv (dsts g) env, own, F, D⟩ Q) : JA P E ops k ⟨n, env, own, F, D⟩ Q := by
  obtain ⟨all, h1, h2⟩ := h (by simp)
  obtain ⟨⟨r, hr0, hlen⟩, hst⟩ := h1.get
  simp only [List.reverse_nil, List.nil_append] at hr0
  subst hr0
  simp only [List.reverse_nil, List.length_nil, Nat.zero_add] at hst
  refine JA.par (Nat.le_of_ble_eq_true hkm) (Nat.le_of_ble_eq_true hml) hg hnd hbk hgr h1 fun fuel L a w hD hle hf ⟨A, hA⟩ => h2 fuel L a w hD hle hf ⟨A, hA.size, hA.defers, hA.keep, hA.hp, fun s x hl => hA.env s x ?_, hA.facts⟩
  have hu : ∀ (a b : Nat) (x y : AV) (s : Nat), all[a]? = some (s, x) → all[b]? = some (s, y) → a = b := by
    intro a b x y s ha hb
    have ha' : a < g.length := by have := (List.getElem?_eq_some_iff.1 ha).1; omega
    have hb' : b < g.length := by have := (List.getElem?_eq_some_iff.1 hb).1; omega
    obtain ⟨d, x', _, h3, h4, _⟩ := hst a _ (List.getElem?_eq_getElem ha')
    obtain ⟨d', y', _, h6, h7, _⟩ := hst b _ (List.getElem?_eq_getElem hb')
    rw [h3] at ha; rw [h6] at hb
    simp only [Option.some.injEq, Prod.mk.injEq] at ha hb
    obtain ⟨rfl, _⟩ := ha
    obtain ⟨rfl, _⟩ := hb
    exact nodupB_ne hnd (List.getElem?_eq_getElem ha') (List.getElem?_eq_getElem hb') h4 h7
  rw [lk_append] at hl ⊢
  rcases hl with hl | ⟨hl1, hl2⟩
  · left
    have := lk_rev (l := all.reverse) (fun a b x y s ha hb => by
      have ha1 := (List.getElem?_eq_some_iff.1 ha).1
      have hb1 := (List.getElem?_eq_some_iff.1 hb).1
      rw [List.length_reverse] at ha1 hb1
      rw [List.getElem?_reverse ha1] at ha
      rw [List.getElem?_reverse hb1] at hb
      have := hu _ _ _ _ _ ha hb
      omega) hl
    rwa [List.reverse_reverse] at this
  · exact .inr ⟨lk_rev_none hl1, hl2⟩
end
end Go.Proofs.Ytkiankpmkglhcaa.J

/- Regions that draw their order: quiet operations and allocations float until one that waits for them; the others come one by one. -/
namespace Go.Proofs.Ytkiankpmkglhcaa.J
open Go Go.RowKit
set_option linter.unusedVariables false
set_option linter.unusedSimpArgs false
/-- One that floats: its place, its slot, what it comes to (a value, or a new variable's cells); fre: of what is owned it reads nothing but O. -/
structure Flt where
  i : Nat
  d : Nat
  v : AV ⊕ List AV
  fre : Bool
  O : Option (Nat × Own) := none
def Flt.ex (L : Array Bool) (bs : Nat → Nat) (φ : Flt) : List Own := match φ.v with
  | .inl _ => []
  | .inr z => if L.getD φ.i false = true then [.box (bs φ.i) z] else []
def exF (L : Array Bool) (bs : Nat → Nat) (Φ : List Flt) : List Own := Φ.flatMap (Flt.ex L bs)
def Flt.bx (bs : Nat → Nat) (φ : Flt) : List Own := match φ.v with
  | .inl _ => []
  | .inr z => [.box (bs φ.i) z]
def bxF (bs : Nat → Nat) : List Flt → List Own
  | [] => []
  | φ :: Φ => φ.bx bs ++ bxF bs Φ
def Flt.val (bs : Nat → Nat) (φ : Flt) : AV := match φ.v with
  | .inl x => x
  | .inr _ => .c (.pointer (some ⟨bs φ.i, 0, none⟩))
def vlF (bs : Nat → Nat) : List Flt → List (Nat × AV)
  | [] => []
  | φ :: Φ => (φ.d, φ.val bs) :: vlF bs Φ
/-- Those that a mask takes, and the others. -/
def tkM : List Bool → List Flt → List Flt
  | true :: ms, φ :: Φ => φ :: tkM ms Φ
  | false :: ms, _ :: Φ => tkM ms Φ
  | _, _ => []
def lvM : List Bool → List Flt → List Flt
  | true :: ms, _ :: Φ => lvM ms Φ
  | false :: ms, φ :: Φ => φ :: lvM ms Φ
  | _, Φ => Φ
theorem tl_perm : ∀ (ms : List Bool) (Φ : List Flt), Φ.Perm (tkM ms Φ ++ lvM ms Φ)
  | [], Φ => by simp [tkM, lvM]
  | _ :: _, [] => by simp [tkM, lvM]
  | true :: ms, φ :: Φ => by simpa [tkM, lvM] using tl_perm ms Φ
  | false :: ms, φ :: Φ => by
    simp only [tkM, lvM]
    exact (List.Perm.cons φ (tl_perm ms Φ)).trans List.perm_middle.symm
def memB (i : Nat) (l : List Nat) : Bool := l.any (Nat.beq i)
theorem memB_iff {i : Nat} {l : List Nat} : memB i l = true ↔ i ∈ l := by
  simp only [memB, List.any_eq_true]
  exact ⟨fun ⟨x, h1, h2⟩ => Nat.eq_of_beq_eq_true h2 ▸ h1, fun h => ⟨i, h, by simp⟩⟩
/-- All others wait for one that is neither settled nor floats. -/
def blkB (l : List Oper) (S Φ : List Nat) (i : Nat) : Bool := (List.range l.length).all fun j => memB j S || memB j Φ || Nat.beq j i || (match l[j]? with
  | some o => o.after.toList.any fun e => Region.binds .any e && !memB e.on S && !memB e.on Φ
  | none => true)
/-- Each of these is one that o, or one of the others of them further ahead, waits for. -/
def lndB (l : List Oper) (o : Oper) : List Oper → List Nat → Bool
  | _, [] => true
  | os, i :: Φ => (depsOk o [i] || os.any fun o' => depsOk o' [i]) && lndB l o (match l[i]? with | some o' => o' :: os | none => os) Φ
section
variable {P : Program} {E : Ent} {Q : Exit → St → Prop} {n : Nat} {env : List (Nat × AV)} {own : List Own} {F : List (Value × AV)} {D : List Deferred} {ops : Array Oper}
/-- It can run. -/
def FOk (P : Program) (E : Ent) (ops : Array Oper) (n : Nat) (env : List (Nat × AV)) (own : List Own) (F : List (Value × AV)) (D : List Deferred) (Φ : List Flt) (φ : Flt) : Prop :=
  ∃ o, ops[φ.i]? = some o ∧ o.dst = some φ.d ∧ φ.d < n ∧ match φ.v with
    | .inr z => AllocOp P o φ.d z
    | .inl x => ∃ e : List (Nat × AV), (∀ s y, lk e s = some y → lk env s = some y ∨ ∃ ψ ∈ Φ, ψ.d = s ∧ ψ.v = .inl y ∧ depsOk o [ψ.i] = true) ∧
      (∀ k en, φ.O = some (k, en) → own[k]? = some en) ∧ ∀ own', (φ.fre = false → ∃ ex, own' = own ++ ex) → (∀ k en, φ.O = some (k, en) → own'[k]? = some en) → Step P E ops ⟨n, e, own', F, D⟩ o x
/-- What those that float read stands where it stood. -/
def okO (own : List Own) : List Flt → Prop
  | [] => True
  | φ :: Φ => (match φ.O with | some (k, en) => own[k]? = some en | none => True) ∧ okO own Φ
theorem okO_get {own : List Own} : ∀ {Φ : List Flt}, okO own Φ → ∀ φ ∈ Φ, ∀ k en, φ.O = some (k, en) → own[k]? = some en
  | ψ :: Φ, h, φ, hφ, k, en, he => by
    rcases List.mem_cons.1 hφ with rfl | hφ
    · have := h.1; rw [he] at this; exact this
    · exact okO_get h.2 φ hφ k en he
structure WfX (ops : Array Oper) (env : List (Nat × AV)) (S : List Nat) (Φ : List Flt) : Prop where
  nd : (Φ.map (·.i)).Nodup
  ndd : (Φ.map (·.d)).Nodup
  ns : ∀ φ ∈ Φ, φ.i ∉ S
  ne : ∀ φ ∈ Φ, lk env φ.d = none
structure Cfg (E : Ent) (ops : Array Oper) (n : Nat) (env : List (Nat × AV)) (own : List Own) (F : List (Value × AV)) (D : List Deferred) (S : List Nat) (Φ : List Flt) (L : Array Bool) (bs : Nat → Nat) (A : Foot) (a : Act) (w : World) : Prop where
  size : L.size = ops.size
  yes : ∀ i ∈ S, L.getD i false = true
  no : ∀ i, i ∉ S → (∀ φ ∈ Φ, φ.i ≠ i) → L.getD i false = false
  clo : ∀ i o, ops[i]? = some o → L.getD i false = true → ∀ e ∈ o.after, Region.binds .any e = true → L.getD e.on false = true
  sat : SatA E A ⟨n, env, own ++ exF L bs Φ, F, D⟩ a w
  val : ∀ φ ∈ Φ, L.getD φ.i false = true → Rd w A (a.tmps.getD φ.d undef) (φ.val bs)
/-- The rest of a region: S is settled, Φ floats. -/
def JX (P : Program) (E : Ent) (ops : Array Oper) (S : List Nat) (Φ : List Flt) (st : St) (Q : Exit → St → Prop) : Prop :=
  WfX ops st.env S Φ → (∀ φ ∈ Φ, FOk P E ops st.n st.env st.own st.facts st.dfs Φ φ) →
    ∀ fuel L bs A a w, cnt ops.size (fun i => !L.getD i true) ≤ fuel → Cfg E ops st.n st.env st.own st.facts st.dfs S Φ L bs A a w → wpAnyIn (fen E.rd) 0 P .any ops (lift E Q) fuel L a w
theorem exF_perm {L : Array Bool} {bs : Nat → Nat} {Φ Φ' : List Flt} (h : Φ.Perm Φ') : (exF L bs Φ).Perm (exF L bs Φ') := h.flatMap_right _
theorem exF_append (L : Array Bool) (bs : Nat → Nat) (Φ Φ' : List Flt) : exF L bs (Φ ++ Φ') = exF L bs Φ ++ exF L bs Φ' := by simp [exF]
theorem exF_done {L : Array Bool} {bs : Nat → Nat} : ∀ {Φ : List Flt}, (∀ φ ∈ Φ, L.getD φ.i false = true) → exF L bs Φ = bxF bs Φ
  | [], _ => rfl
  | φ :: Φ, h => by
    have h1 := h φ (by simp)
    have h2 := exF_done (L := L) (bs := bs) (Φ := Φ) fun ψ hψ => h ψ (by simp [hψ])
    unfold exF at h2 ⊢
    rw [List.flatMap_cons, h2, bxF]
    congr 1
    unfold Flt.ex Flt.bx
    split
    · rename_i heq; simp [heq]
    · rename_i z heq; simp [heq, h1]
theorem exF_congr {L L' : Array Bool} {bs bs' : Nat → Nat} : ∀ {Φ : List Flt}, (∀ φ ∈ Φ, L'.getD φ.i false = L.getD φ.i false ∧ bs' φ.i = bs φ.i) → exF L' bs' Φ = exF L bs Φ
  | [], _ => rfl
  | φ :: Φ, h => by
    have h1 := h φ (by simp)
    have h2 := exF_congr (L := L) (L' := L') (bs := bs) (bs' := bs') (Φ := Φ) fun ψ hψ => h ψ (by simp [hψ])
    unfold exF at h2 ⊢
    rw [List.flatMap_cons, List.flatMap_cons, h2]
    congr 1
    unfold Flt.ex
    rw [h1.1, h1.2]
theorem exF_ext {L L' : Array Bool} {bs : Nat → Nat} : ∀ {Φ : List Flt}, (∀ φ ∈ Φ, φ.ex L' bs = φ.ex L bs) → exF L' bs Φ = exF L bs Φ
  | [], _ => rfl
  | φ :: Φ, h => by
    have h2 := exF_ext (L := L) (L' := L') (bs := bs) (Φ := Φ) fun ψ hψ => h ψ (by simp [hψ])
    unfold exF at h2 ⊢
    rw [List.flatMap_cons, List.flatMap_cons, h2, h φ (by simp)]
theorem lk_vlF {bs : Nat → Nat} {env : List (Nat × AV)} : ∀ {Φ : List Flt} {s : Nat} {x : AV}, lk (vlF bs Φ ++ env) s = some x → (∃ φ ∈ Φ, φ.d = s ∧ φ.val bs = x) ∨ lk env s = some x
  | [], _, _, h => .inr h
  | φ :: Φ, s, x, h => by
    rcases lk_cons h with ⟨rfl, rfl⟩ | ⟨_, h⟩
    · exact .inl ⟨φ, by simp, rfl, rfl⟩
    · rcases lk_vlF h with ⟨ψ, h1, h2⟩ | h
      · exact .inl ⟨ψ, by simp [h1], h2⟩
      · exact .inr h
theorem lk_vlF_mem {bs : Nat → Nat} {env : List (Nat × AV)} : ∀ {Φ : List Flt} {φ : Flt}, (Φ.map (·.d)).Nodup → φ ∈ Φ → lk (vlF bs Φ ++ env) φ.d = some (φ.val bs)
  | ψ :: Φ, φ, hn, h => by
    rw [List.map_cons, List.nodup_cons] at hn
    rw [vlF, List.cons_append, lk_hd]
    rcases List.mem_cons.1 h with rfl | h
    · simp
    · have hne : Nat.beq ψ.d φ.d = false := by
        cases hb : Nat.beq ψ.d φ.d with
        | false => rfl
        | true => exact absurd (List.mem_map.2 ⟨φ, h, (Nat.eq_of_beq_eq_true hb).symm⟩) hn.1
      rw [hne]
      exact lk_vlF_mem hn.2 h
theorem lk_vlF_none {bs : Nat → Nat} {env : List (Nat × AV)} : ∀ {Φ : List Flt} {s : Nat}, (∀ φ ∈ Φ, φ.d ≠ s) → lk (vlF bs Φ ++ env) s = lk env s
  | [], _, _ => rfl
  | ψ :: Φ, s, h => by
    rw [vlF, List.cons_append, lk_hd]
    have hne : Nat.beq ψ.d s = false := by
      cases hb : Nat.beq ψ.d s with
      | false => rfl
      | true => exact absurd (Nat.eq_of_beq_eq_true hb) (h ψ (by simp))
    rw [hne]
    exact lk_vlF_none fun φ hφ => h φ (by simp [hφ])
/-- One that floats comes up: it runs, and the same holds. -/
theorem Cfg.run {S : List Nat} {Φ : List Flt} {L : Array Bool} {bs : Nat → Nat} {A : Foot} {a : Act} {w : World} (hw : WfX ops env S Φ) (hF : ∀ φ ∈ Φ, FOk P E ops n env own F D Φ φ) (hc : Cfg E ops n env own F D S Φ L bs A a w) {φ : Flt} (hφ : φ ∈ Φ) (hun : L.getD φ.i false = false) (hlt : φ.i < ops.size)
    (hdeps : ∀ o, ops[φ.i]? = some o → ∀ e ∈ o.after, Region.binds .any e = true → L.getD e.on false = true) {fuel : Nat} {Qx : Exit → Act → World → Prop}
    (hk : ∀ bs' A' a' w', Cfg E ops n env own F D S Φ (L.setIfInBounds φ.i true) bs' A' a' w' → wpAnyIn (fen E.rd) 0 P .any ops Qx fuel (L.setIfInBounds φ.i true) a' w') :
    wpOpIn (fen E.rd) 0 P ops Qx φ.i (wpAnyIn (fen E.rd) 0 P .any ops Qx fuel (L.setIfInBounds φ.i true)) a w := by
  obtain ⟨o, ho, hd, hdn, hm⟩ := hF φ hφ
  have hLs : φ.i < L.size := by rw [hc.size]; exact hlt
  have hset : ∀ j, (L.setIfInBounds φ.i true).getD j false = if j = φ.i then true else L.getD j false := fun j => getD_set _ _ _ hLs _
  have hyes : ∀ i ∈ S, (L.setIfInBounds φ.i true).getD i false = true := fun i hi => by rw [hset]; split; rfl; exact hc.yes i hi
  have hno : ∀ i, i ∉ S → (∀ ψ ∈ Φ, ψ.i ≠ i) → (L.setIfInBounds φ.i true).getD i false = false := fun i h1 h2 => by rw [hset, if_neg (fun h => h2 φ hφ h.symm)]; exact hc.no i h1 h2
  have hclo : ∀ i o, ops[i]? = some o → (L.setIfInBounds φ.i true).getD i false = true → ∀ e ∈ o.after, Region.binds .any e = true → (L.setIfInBounds φ.i true).getD e.on false = true := fun i o' ho' hL e he hb => by
    rw [hset] at hL ⊢
    split
    · rfl
    · by_cases hi : i = φ.i
      · subst hi; exact hdeps o' ho' e he hb
      · rw [if_neg hi] at hL; exact hc.clo i o' ho' hL e he hb
  have hne : ∀ ψ ∈ Φ, ψ.i ≠ φ.i → φ.d ≠ ψ.d := fun ψ hψ hi hd' => by
    have := hw.ndd
    rw [List.nodup_iff_pairwise_ne, List.pairwise_map] at this
    obtain ⟨x, hx⟩ := List.getElem?_of_mem hφ
    obtain ⟨y, hy⟩ := List.getElem?_of_mem hψ
    by_cases hxy : x = y
    · subst hxy; rw [hx] at hy; cases hy; exact hi rfl
    · rw [List.pairwise_iff_getElem] at this
      obtain ⟨h1, h2⟩ := List.getElem?_eq_some_iff.1 hx
      obtain ⟨h3, h4⟩ := List.getElem?_eq_some_iff.1 hy
      rcases Nat.lt_or_gt_of_ne hxy with h | h
      · have := this x y h1 h3 h; rw [h2, h4] at this; exact this hd'
      · have := this y x h3 h1 h; rw [h2, h4] at this; exact this hd'.symm
  have huniq : ∀ ψ ∈ Φ, ψ.i = φ.i → ψ = φ := fun ψ hψ hi => by
    have := hw.nd
    rw [List.nodup_iff_pairwise_ne, List.pairwise_map, List.pairwise_iff_getElem] at this
    obtain ⟨x, hx⟩ := List.getElem?_of_mem hφ
    obtain ⟨y, hy⟩ := List.getElem?_of_mem hψ
    obtain ⟨h1, h2⟩ := List.getElem?_eq_some_iff.1 hx
    obtain ⟨h3, h4⟩ := List.getElem?_eq_some_iff.1 hy
    by_cases hxy : x = y
    · subst hxy; rw [hx] at hy; cases hy; rfl
    · rcases Nat.lt_or_gt_of_ne hxy with h | h
      · have := this x y h1 h3 h; rw [h2, h4] at this; exact absurd hi.symm this
      · have := this y x h3 h1 h; rw [h2, h4] at this; exact absurd hi this
  have hput : ∀ v s, φ.d ≠ s → (a.put o.dst v).tmps.getD s undef = a.tmps.getD s undef := fun v s h => by rw [hd]; exact put_getD_ne h
  unfold wpOpIn
  simp only [ho]
  cases hv : φ.v with
  | inl x =>
    rw [hv] at hm
    obtain ⟨e, he, hO, hs⟩ := hm
    have hexs : ∀ bs, exF (L.setIfInBounds φ.i true) bs Φ = exF L bs Φ := fun bs => by
      refine exF_ext fun ψ hψ => ?_
      unfold Flt.ex
      by_cases hi : ψ.i = φ.i
      · rw [huniq ψ hψ hi, hv]
      · rw [hset, if_neg hi]
    have hsat : SatA E A ⟨n, e, own ++ exF L bs Φ, F, D⟩ a w := ⟨hc.sat.size, hc.sat.defers, hc.sat.keep, hc.sat.hp, fun s y hl => by
      rcases he s y hl with h | ⟨ψ, hψ, rfl, hψv, hψd⟩
      · exact hc.sat.env s y h
      · obtain ⟨e', he', hb, hon⟩ := depsOk_get hψd (List.mem_singleton.2 rfl)
        have h1 := hdeps o ho e' he' hb
        rw [hon] at h1
        have := hc.val ψ hψ h1
        unfold Flt.val at this
        rw [hψv] at this
        exact this, hc.sat.facts⟩
    have h1 := hs _ (fun _ => ⟨_, rfl⟩) (fun k en hk => by
      have := hO k en hk
      rw [List.getElem?_append_left (List.getElem?_eq_some_iff.1 this).1]; exact this) A a w hsat (wpAnyIn (fen E.rd) 0 P .any ops Qx fuel (L.setIfInBounds φ.i true)) Qx fun v w' A' hf hs' hr => hk bs A' _ w'
      ⟨by simpa using hc.size, hyes, hno, hclo, by
        rw [hexs]
        exact ⟨by have := hs'.size; simp only [Act.put, hd, Array.size_setIfInBounds]; exact this, by rw [hd]; exact hs'.defers, hs'.keep, hs'.hp, fun s y hl => by
          rw [hput v s (fun h => by rw [← h, hw.ne φ hφ] at hl; cases hl)]
          exact hf _ _ (hc.sat.env s y hl), hs'.facts⟩, fun ψ hψ hL => by
        by_cases hi : ψ.i = φ.i
        · obtain rfl := huniq ψ hψ hi
          rw [hd, put_getD_same (by have := hs'.size; simp only at this; rw [this]; exact hdn)]
          unfold Flt.val
          rw [hv]
          exact hr
        · rw [hset, if_neg hi] at hL
          rw [hput v _ (hne ψ hψ hi)]
          exact hf _ _ (hc.val ψ hψ hL)⟩
    split
    · rename_i hw'; rw [if_pos hw'] at h1; exact h1
    · rename_i hw'; rw [if_neg hw'] at h1; exact ⟨fun _ _ => trivial, h1⟩
  | inr z =>
    rw [hv] at hm
    have hga := hm.guard
    rw [if_pos (by simp [Region.wanted, hga])]
    refine hm.run (E := E) hc.sat (wpAnyIn (fen E.rd) 0 P .any ops Qx fuel (L.setIfInBounds φ.i true)) fun b w' hf hs' => ?_
    have hperm : (exF (L.setIfInBounds φ.i true) (fun j => if j = φ.i then b else bs j) Φ).Perm (.box b z :: exF L bs Φ) := by
      obtain ⟨p, q, rfl⟩ := List.append_of_mem hφ
      have hother : ∀ ψ ∈ p ++ q, (L.setIfInBounds φ.i true).getD ψ.i false = L.getD ψ.i false ∧ (if ψ.i = φ.i then b else bs ψ.i) = bs ψ.i := fun ψ hψ => by
        have hne' : ψ.i ≠ φ.i := fun hi => by
          have := hw.nd
          rw [List.map_append, List.map_cons] at this
          have h2 := (List.perm_middle.nodup_iff).1 this
          rw [List.nodup_cons] at h2
          exact h2.1 (by rw [← List.map_append, ← hi]; exact List.mem_map.2 ⟨ψ, hψ, rfl⟩)
        exact ⟨by rw [hset, if_neg hne'], by rw [if_neg hne']⟩
      have h1 := exF_congr (L := L) (L' := L.setIfInBounds φ.i true) (bs := bs) (bs' := fun j => if j = φ.i then b else bs j) (Φ := p) fun ψ hψ => hother ψ (List.mem_append_left _ hψ)
      have h2 := exF_congr (L := L) (L' := L.setIfInBounds φ.i true) (bs := bs) (bs' := fun j => if j = φ.i then b else bs j) (Φ := q) fun ψ hψ => hother ψ (List.mem_append_right _ hψ)
      have e1 : ∀ (L : Array Bool) (bs : Nat → Nat), exF L bs (p ++ φ :: q) = exF L bs p ++ (φ.ex L bs ++ exF L bs q) := fun L bs => by simp [exF]
      rw [e1, e1, h1, h2]
      have e2 : φ.ex (L.setIfInBounds φ.i true) (fun j => if j = φ.i then b else bs j) = [.box b z] := by unfold Flt.ex; rw [hv]; simp only [hset, if_true]
      have e3 : φ.ex L bs = [] := by unfold Flt.ex; rw [hv]; simp [hun]
      rw [e2, e3, List.nil_append]
      exact List.perm_middle
    have hs' : SatA E A ⟨n, env, own ++ exF (L.setIfInBounds φ.i true) (fun j => if j = φ.i then b else bs j) Φ, F, D⟩ a w' := hs'.perm (List.perm_middle.symm.trans (List.Perm.append_left _ hperm.symm))
    refine hk (fun j => if j = φ.i then b else bs j) A _ w' ⟨by simpa using hc.size, hyes, hno, hclo, ⟨by have := hs'.size; simp only [Act.put, hd, Array.size_setIfInBounds]; exact this, by rw [hd]; exact hs'.defers, hs'.keep, hs'.hp, fun s y hl => ?_, hs'.facts⟩, fun ψ hψ hL => ?_⟩
    · rw [hput _ s (fun h => by rw [← h, hw.ne φ hφ] at hl; cases hl)]
      exact hf _ _ (hc.sat.env s y hl)
    · by_cases hi : ψ.i = φ.i
      · obtain rfl := huniq ψ hψ hi
        rw [hd, put_getD_same (by have := hs'.size; simp only at this; rw [this]; exact hdn)]
        unfold Flt.val
        rw [hv]
        simp only [if_true]
        exact .c _
      · rw [hset, if_neg hi] at hL
        rw [hput _ _ (hne ψ hψ hi)]
        have := hf _ _ (hc.val ψ hψ hL)
        unfold Flt.val at this ⊢
        split
        · rename_i x heq; rw [heq] at this; exact this
        · rename_i z' heq; rw [heq] at this; simp only [if_neg hi]; exact this
theorem lndB_done {L : Array Bool} (hclo : ∀ i o, ops[i]? = some o → L.getD i false = true → ∀ e ∈ o.after, Region.binds .any e = true → L.getD e.on false = true) {o : Oper} (hdeps : ∀ e ∈ o.after, Region.binds .any e = true → L.getD e.on false = true) :
    ∀ (Φ : List Nat) (os : List Oper), (∀ o' ∈ os, ∀ e ∈ o'.after, Region.binds .any e = true → L.getD e.on false = true) → lndB ops.toList o os Φ = true → ∀ i ∈ Φ, L.getD i false = true
  | [], _, _, _ => fun _ h => by cases h
  | j :: Φ, os, hos, h => by
    unfold lndB at h
    rw [Bool.and_eq_true, Bool.or_eq_true] at h
    have hj : L.getD j false = true := by
      rcases h.1 with h1 | h1
      · obtain ⟨e, he, hb, hon⟩ := depsOk_get h1 (List.mem_singleton.2 rfl)
        rw [← hon]; exact hdeps e he hb
      · obtain ⟨o', ho', h1⟩ := List.any_eq_true.1 h1
        obtain ⟨e, he, hb, hon⟩ := depsOk_get h1 (List.mem_singleton.2 rfl)
        rw [← hon]; exact hos o' ho' e he hb
    have hrec := lndB_done hclo hdeps Φ _ (fun o' ho' => by
      split at ho'
      · rename_i o2 ho2
        rcases List.mem_cons.1 ho' with rfl | ho'
        · exact hclo j _ (by simpa using ho2) hj
        · exact hos o' ho'
      · exact hos o' ho') h.2
    intro i hi
    rcases List.mem_cons.1 hi with rfl | hi
    · exact hj
    · exact hrec i hi
theorem cnt_run {L : Array Bool} {i fuel : Nat} (hL : L.size = ops.size) (hi : i < ops.size) (hun : L.getD i true = false) (hc : cnt ops.size (fun i => !L.getD i true) ≤ fuel + 1) : cnt ops.size (fun j => !(L.setIfInBounds i true).getD j true) ≤ fuel := by
  have := cnt_set (fun i => !L.getD i true) (fun j => !(L.setIfInBounds i true).getD j true) i (fun j hj => by rw [getD_set _ _ _ (by omega), if_neg hj]) (by simp [hun]) (by rw [getD_set _ _ _ (by omega), if_pos rfl]; rfl) ops.size
  rw [if_pos hi] at this
  omega
theorem wpListIn_monoN {o : Oper} {K K' : St → Prop} {a : Act} {w : World} (h : wpListIn (fen E.rd) 0 P ops (lift E (thenQ K Q)) [o] a w) (hk : ∀ a w, lift E (thenQ K Q) .normal a w → lift E (thenQ K' Q) .normal a w) : wpListIn (fen E.rd) 0 P ops (lift E (thenQ K' Q)) [o] a w := by
  have hx : ∀ e, e ≠ .normal → ∀ a w, lift E (thenQ K Q) e a w → lift E (thenQ K' Q) e a w := fun e he a w ⟨s, h1, h2⟩ => ⟨s, by cases e <;> first | exact h1 | exact absurd rfl he, h2⟩
  unfold wpListIn at h ⊢
  split
  · rename_i hw
    rw [if_pos hw] at h
    exact Oper.wpIn_monoQ (fun ch a w h => hx _ (by intro h; cases h) a w h) (fun h => by first | exact fun a w => hx _ (by intro h; cases h) a w (h a w) | (obtain ⟨a, w, h⟩ := h; exact ⟨a, w, hx _ (by intro h; cases h) a w h⟩)) (Oper.wpIn_mono (fun a w h => hk a w h) h)
  · rename_i hw
    rw [if_neg hw] at h
    exact ⟨h.1, hk _ _ h.2⟩
/-- The next that is no float. -/
theorem JX.step {S : List Nat} {Φ : List Flt} (i : Nat) (ms : List Bool) {o : Oper} (ho : ops[i]? = some o) (hbk : backB 0 ops.toList = true) (hblk : blkB ops.toList S (Φ.map (·.i)) i = true) (hS : memB i S = false) (hΦ : memB i (Φ.map (·.i)) = false)
    (hlnd : lndB ops.toList o [] ((tkM ms Φ).map (·.i)) = true) (hfre : (lvM ms Φ).all (·.fre) = true)
    (h : ∀ bs pe ex, JL P E ops [o] ⟨n, vlF bs (tkM ms Φ) ++ (env ++ pe), own ++ (bxF bs (tkM ms Φ) ++ ex), F, D⟩ (thenQ (fun s => ∃ ev env' own', s.n = n ∧ s.env = env' ++ pe ∧ s.facts = F ∧ s.dfs = D ∧ env' = ev ++ (vlF bs (tkM ms Φ) ++ env) ∧ ev.all (fun p => o.dst == some p.1) = true ∧ Reown s.own (own' ++ ex) ∧
      (match o.dst with | some d => (Φ.all fun φ => !Nat.beq φ.d d) = true ∧ lk env d = none | none => True) ∧ okO own' (lvM ms Φ) ∧ JX P E ops (i :: ((tkM ms Φ).map (·.i) ++ S)) (lvM ms Φ) ⟨n, env', own', F, D⟩ Q) Q)) : JX P E ops S Φ ⟨n, env, own, F, D⟩ Q := fun hw hF => by
  have hlt : i < ops.size := (Array.getElem?_eq_some_iff.1 ho).1
  have hp := tl_perm ms Φ
  intro fuel
  induction fuel with
  | zero =>
    intro L bs A a w hc hcf
    exfalso
    have hi : L.getD i true = false := by
      rw [getD_same (by rw [hcf.size]; exact hlt)]
      exact hcf.no i (fun h => by rw [memB_iff.2 h] at hS; cases hS) fun φ hφ he => by rw [memB_iff.2 (List.mem_map.2 ⟨φ, hφ, he⟩)] at hΦ; cases hΦ
    have := List.countP_eq_zero.1 (Nat.le_zero.1 hc) i (by simpa using hlt)
    simp [hi] at this
  | succ fuel ih =>
    intro L bs A a w hc hcf
    have hundone : L.getD i false = false := hcf.no i (fun h => by rw [memB_iff.2 h] at hS; cases hS) fun φ hφ he => by rw [memB_iff.2 (List.mem_map.2 ⟨φ, hφ, he⟩)] at hΦ; cases hΦ
    refine ⟨fun hr => ?_, fun j hj => ?_⟩
    · exfalso
      have key : ∀ j, j < ops.size → L.getD j false = true := by
        intro j
        induction j using Nat.strongRecOn with
        | _ j ihj =>
          intro hjl
          cases hL : L.getD j false with
          | true => rfl
          | false =>
            exfalso
            obtain ⟨oj, hoj⟩ : ∃ oj, ops[j]? = some oj := ⟨_, Array.getElem?_eq_getElem hjl⟩
            have : j ∈ Region.ready .any ops L := ready_mem hcf.size hoj (by rw [getD_same (by rw [hcf.size]; exact hjl)]; exact hL) fun e he hb => by
              have hon := backB_lt hbk (i := j) (o := oj) (by simpa using hoj) e he hb
              exact ihj e.on (by omega) (by omega)
            rw [hr] at this
            cases this
      rw [key i hlt] at hundone; cases hundone
    · obtain ⟨hjl, oj, hoj, hunj, hdeps⟩ := mem_ready hj
      have hunj' : L.getD j false = false := by rw [← getD_same (by rw [hcf.size]; exact hjl)]; exact hunj
      by_cases hjΦ : ∃ φ ∈ Φ, φ.i = j
      · obtain ⟨φ, hφ, rfl⟩ := hjΦ
        exact hcf.run hw hF hφ hunj' hjl (fun o' ho' => by rw [hoj] at ho'; cases ho'; exact hdeps) fun bs' A' a' w' hcf' => ih _ bs' A' a' w' (cnt_run hcf.size hjl hunj hc) hcf'
      · have hji : j = i := by
          by_cases he : j = i
          · exact he
          · exfalso
            have h1 := List.all_eq_true.1 hblk j (by simpa using hjl)
            have h2 : memB j S = false := by
              cases hb : memB j S with
              | false => rfl
              | true => rw [hcf.yes j (memB_iff.1 hb)] at hunj'; cases hunj'
            have h3 : memB j (Φ.map (·.i)) = false := by
              cases hb : memB j (Φ.map (·.i)) with
              | false => rfl
              | true =>
                obtain ⟨φ, hφ, hφi⟩ := List.mem_map.1 (memB_iff.1 hb)
                exact absurd ⟨φ, hφ, hφi⟩ hjΦ
            have h4 : Nat.beq j i = false := by
              cases hb : Nat.beq j i with
              | false => rfl
              | true => exact absurd (Nat.eq_of_beq_eq_true hb) he
            have h5 : ops.toList[j]? = some oj := by simpa using hoj
            rw [h2, h3, h4, h5] at h1
            simp only [Bool.false_or] at h1
            obtain ⟨e, he, hb⟩ := List.any_eq_true.1 h1
            simp only [Bool.and_eq_true, Bool.not_eq_true'] at hb
            have h6 := hdeps e (by simpa using he) hb.1.1
            rw [hcf.no e.on (fun h => by rw [memB_iff.2 h] at hb; simp at hb) fun φ hφ hφi => by
              have := hb.2
              rw [memB_iff.2 (List.mem_map.2 ⟨φ, hφ, hφi⟩)] at this; cases this] at h6
            cases h6
        subst hji
        rw [ho] at hoj; cases hoj
        -- what it waits for has been done
        have hland : ∀ φ ∈ tkM ms Φ, L.getD φ.i false = true := fun φ hφ => lndB_done hcf.clo hdeps _ _ (fun o' h => by cases h) hlnd φ.i (List.mem_map.2 ⟨φ, hφ, rfl⟩)
        have hmem : ∀ φ, φ ∈ Φ ↔ φ ∈ tkM ms Φ ∨ φ ∈ lvM ms Φ := fun φ => by rw [hp.mem_iff, List.mem_append]
        obtain ⟨pe, hpe⟩ : ∃ pe, pe = vlF bs ((lvM ms Φ).filter fun φ => L.getD φ.i false) := ⟨_, rfl⟩
        have hndd : ((tkM ms Φ ++ lvM ms Φ).map (·.d)).Nodup := (hp.map _).nodup_iff.1 hw.ndd
        rw [List.map_append, List.nodup_append] at hndd
        have hnd : ((tkM ms Φ ++ lvM ms Φ).map (·.i)).Nodup := (hp.map _).nodup_iff.1 hw.nd
        rw [List.map_append, List.nodup_append] at hnd
        have hsat0 : SatA E A ⟨n, vlF bs (tkM ms Φ) ++ (env ++ pe), own ++ (bxF bs (tkM ms Φ) ++ exF L bs (lvM ms Φ)), F, D⟩ a w := by
          have h1 := hcf.sat.perm (List.Perm.append_left own ((exF_perm (L := L) (bs := bs) hp).trans (by rw [exF_append, exF_done hland])))
          refine ⟨h1.size, h1.defers, h1.keep, h1.hp, fun s x hl => ?_, h1.facts⟩
          rcases lk_vlF hl with ⟨φ, hφ, rfl, rfl⟩ | hl
          · exact hcf.val φ ((hmem φ).2 (.inl hφ)) (hland φ hφ)
          · rw [lk_append] at hl
            rcases hl with hl | ⟨_, hl⟩
            · exact hcf.sat.env s x hl
            · rw [hpe] at hl
              rcases lk_vlF (env := []) (by rw [List.append_nil]; exact hl) with ⟨φ, hφ, rfl, rfl⟩ | hl
              · rw [List.mem_filter] at hφ
                exact hcf.val φ ((hmem φ).2 (.inr hφ.1)) hφ.2
              · simp [lk] at hl
        have hl := h bs pe (exF L bs (lvM ms Φ)) a w ⟨A, hsat0⟩
        have hK : ∀ a' w', wpListIn (fen E.rd) 0 P ops (lift E (thenQ (fun s => ∃ ev env' own', s.n = n ∧ s.env = env' ++ pe ∧ s.facts = F ∧ s.dfs = D ∧ env' = ev ++ (vlF bs (tkM ms Φ) ++ env) ∧ ev.all (fun p => o.dst == some p.1) = true ∧ Reown s.own (own' ++ exF L bs (lvM ms Φ)) ∧
            (match o.dst with | some d => (Φ.all fun φ => !Nat.beq φ.d d) = true ∧ lk env d = none | none => True) ∧ okO own' (lvM ms Φ) ∧ JX P E ops (j :: ((tkM ms Φ).map (·.i) ++ S)) (lvM ms Φ) ⟨n, env', own', F, D⟩ Q) Q)) [] a' w' → wpAnyIn (fen E.rd) 0 P .any ops (lift E Q) fuel (L.setIfInBounds j true) a' w' := by
          rintro a' w' ⟨⟨n', env2, own2, F', D'⟩, ⟨ev, env', own', rfl, rfl, rfl, rfl, rfl, hev, hre, hdd, hoO, hX⟩, A', hsA⟩
          have hevd : ∀ s x, lk ev s = some x → o.dst = some s := fun s x hl' => by
            have := List.all_eq_true.1 hev _ (lk_mem _ _ _ hl')
            simpa using this
          have hlts : j < L.size := by rw [hcf.size]; exact hlt
          have hset : ∀ z, (L.setIfInBounds j true).getD z false = if z = j then true else L.getD z false := fun z => getD_set _ _ _ hlts _
          have hnot : ∀ φ ∈ Φ, φ.i ≠ j := fun φ hφ he => by rw [memB_iff.2 (List.mem_map.2 ⟨φ, hφ, he⟩)] at hΦ; cases hΦ
          have hevΦ : ∀ φ ∈ Φ, lk ev φ.d = none := fun φ hφ => by
            cases hle : lk ev φ.d with
            | none => rfl
            | some x =>
              have hd' := hevd _ _ hle
              rw [hd'] at hdd
              have := List.all_eq_true.1 hdd.1 φ hφ
              simp at this
          have hold : ∀ s y, lk env s = some y → lk (ev ++ (vlF bs (tkM ms Φ) ++ env)) s = some y := fun s y hl' => by
            rw [lk_append]
            have h1 : lk ev s = none := by
              cases hle : lk ev s with
              | none => rfl
              | some x =>
                have hd' := hevd _ _ hle
                rw [hd'] at hdd
                simp only at hdd
                rw [hdd.2] at hl'; cases hl'
            refine .inr ⟨h1, ?_⟩
            rw [lk_vlF_none fun φ hφ he => ?_]
            · exact hl'
            · rw [← he, hw.ne φ ((hmem φ).2 (.inl hφ))] at hl'; cases hl'
          have hexs : exF (L.setIfInBounds j true) bs (lvM ms Φ) = exF L bs (lvM ms Φ) := exF_congr fun φ hφ => ⟨by rw [hset, if_neg (hnot φ ((hmem φ).2 (.inr hφ)))], rfl⟩
          refine hX ⟨hnd.2.1, hndd.2.1, fun φ hφ hm => ?_, fun φ hφ => ?_⟩ (fun φ hφ => ?_) fuel _ bs A' a' w' (cnt_run hcf.size hlt hunj hc) ⟨by simpa using hcf.size, fun z hz => ?_, fun z hz1 hz2 => ?_, fun z oz hoz hLz e he hb => ?_, ?_, fun φ hφ hLφ => ?_⟩
          · rcases List.mem_cons.1 hm with hm | hm
            · exact hnot φ ((hmem φ).2 (.inr hφ)) hm
            · rcases List.mem_append.1 hm with hm | hm
              · exact hnd.2.2 _ hm _ (List.mem_map.2 ⟨φ, hφ, rfl⟩) rfl
              · exact hw.ns φ ((hmem φ).2 (.inr hφ)) hm
          · have hφΦ := (hmem φ).2 (.inr hφ)
            show lk (ev ++ (vlF bs (tkM ms Φ) ++ env)) φ.d = none
            cases hle : lk (ev ++ (vlF bs (tkM ms Φ) ++ env)) φ.d with
            | none => rfl
            | some y =>
              rw [lk_append] at hle
              rcases hle with hle | ⟨_, hle⟩
              · rw [hevΦ φ hφΦ] at hle; cases hle
              · rw [lk_vlF_none fun ψ hψ he => hndd.2.2 _ (List.mem_map.2 ⟨ψ, hψ, rfl⟩) _ (List.mem_map.2 ⟨φ, hφ, rfl⟩) he] at hle
                rw [hw.ne φ hφΦ] at hle; cases hle
          · obtain ⟨o', ho', hd', hdn', hm'⟩ := hF φ ((hmem φ).2 (.inr hφ))
            refine ⟨o', ho', hd', hdn', ?_⟩
            split at hm'
            · exact hm'
            · obtain ⟨e, he, _, hs⟩ := hm'
              refine ⟨e, fun s y hl' => ?_, okO_get hoO φ hφ, fun own2 _ hO2 => hs own2 (fun hf => ?_) hO2⟩
              · rcases he s y hl' with h1 | ⟨ψ, hψ, rfl, hψv, hψd⟩
                · exact .inl (hold s y h1)
                · rcases (hmem ψ).1 hψ with hψ' | hψ'
                  · left
                    rw [lk_append]
                    refine .inr ⟨hevΦ ψ hψ, ?_⟩
                    rw [lk_vlF_mem hndd.1 hψ']
                    unfold Flt.val
                    rw [hψv]
                  · exact .inr ⟨ψ, hψ', rfl, hψv, hψd⟩
              · have := List.all_eq_true.1 hfre φ hφ
                rw [hf] at this; cases this
          · rw [hset]
            split
            · rfl
            · rename_i hne
              rcases List.mem_cons.1 hz with hz | hz
              · exact absurd hz hne
              · rcases List.mem_append.1 hz with hz | hz
                · obtain ⟨φ, hφ, rfl⟩ := List.mem_map.1 hz
                  exact hland φ hφ
                · exact hcf.yes z hz
          · rw [hset, if_neg (fun h => hz1 (by simp [h]))]
            refine hcf.no z (fun h => hz1 (by simp [h])) fun φ hφ he => ?_
            rcases (hmem φ).1 hφ with h' | h'
            · exact hz1 (by rw [← he]; exact List.mem_cons_of_mem _ (List.mem_append_left _ (List.mem_map.2 ⟨φ, h', rfl⟩)))
            · exact hz2 φ h' he
          · rw [hset] at hLz ⊢
            split
            · rfl
            · by_cases hzj : z = j
              · subst hzj; rw [ho] at hoz; cases hoz; exact hdeps e he hb
              · rw [if_neg hzj] at hLz; exact hcf.clo z oz hoz hLz e he hb
          · rw [hexs]
            exact ⟨hsA.size, hsA.defers, hsA.keep, hsA.hp.reown hre, fun s y hl' => hsA.env s y (by rw [lk_append]; exact .inl hl'), hsA.facts⟩
          · rw [hset, if_neg (hnot φ ((hmem φ).2 (.inr hφ)))] at hLφ
            refine hsA.env φ.d (φ.val bs) ?_
            have hφΦ := (hmem φ).2 (.inr hφ)
            rw [lk_append]
            refine .inr ⟨?_, ?_⟩
            · show lk (ev ++ (vlF bs (tkM ms Φ) ++ env)) φ.d = none
              cases hle : lk (ev ++ (vlF bs (tkM ms Φ) ++ env)) φ.d with
              | none => rfl
              | some y =>
                rw [lk_append] at hle
                rcases hle with hle | ⟨_, hle⟩
                · rw [hevΦ φ hφΦ] at hle; cases hle
                · rw [lk_vlF_none fun ψ hψ he => hndd.2.2 _ (List.mem_map.2 ⟨ψ, hψ, rfl⟩) _ (List.mem_map.2 ⟨φ, hφ, rfl⟩) he] at hle
                  rw [hw.ne φ hφΦ] at hle; cases hle
            · rw [hpe]
              have := lk_vlF_mem (bs := bs) (env := []) (Φ := (lvM ms Φ).filter fun φ => L.getD φ.i false) (φ := φ) ((List.filter_sublist.map _).nodup hndd.2.1) (List.mem_filter.2 ⟨hφ, hLφ⟩)
              rwa [List.append_nil] at this
        unfold wpOpIn
        simp only [ho]
        unfold wpListIn at hl
        split
        · rename_i hw'
          rw [if_pos hw'] at hl
          exact Oper.wpIn_monoQ (fun ch a w h => lift_q (by intro h; cases h) h) (fun h => by first | exact fun a w => lift_q (by intro h; cases h) (h a w) | exact h) (Oper.wpIn_mono hK hl)
        · rename_i hw'
          rw [if_neg hw'] at hl
          exact ⟨hl.1, hK _ _ hl.2⟩
theorem FOk.more {Φ : List Flt} {φ ψ : Flt} (h : FOk P E ops n env own F D Φ φ) : FOk P E ops n env own F D (ψ :: Φ) φ := by
  obtain ⟨o, h1, h2, h3, h4⟩ := h
  refine ⟨o, h1, h2, h3, ?_⟩
  split at h4
  · exact h4
  · obtain ⟨e, he, hO, hs⟩ := h4
    refine ⟨e, fun s y hl => (he s y hl).imp id fun ⟨χ, k1, k2⟩ => ⟨χ, by simp [k1], k2⟩, hO, hs⟩
theorem JX.add {S : List Nat} {Φ : List Flt} (φ : Flt) (hS : memB φ.i S = false) (hΦ : memB φ.i (Φ.map (·.i)) = false) (hdd : (Φ.all fun ψ => !Nat.beq ψ.d φ.d) = true) (hne : lk env φ.d = none) (hok : FOk P E ops n env own F D (φ :: Φ) φ) (h : JX P E ops S (φ :: Φ) ⟨n, env, own, F, D⟩ Q) : JX P E ops S Φ ⟨n, env, own, F, D⟩ Q := fun hw hF fuel L bs A a w hc hcf => by
  have hun : L.getD φ.i false = false := hcf.no _ (fun h => by rw [memB_iff.2 h] at hS; cases hS) fun ψ hψ he => by rw [memB_iff.2 (List.mem_map.2 ⟨ψ, hψ, he⟩)] at hΦ; cases hΦ
  refine h ⟨?_, ?_, ?_, ?_⟩ (fun ψ hψ => ?_) fuel L bs A a w hc ⟨hcf.size, hcf.yes, fun i h1 h2 => hcf.no i h1 fun ψ hψ => h2 ψ (by simp [hψ]), hcf.clo, ?_, fun ψ hψ hL => ?_⟩
  · rw [List.map_cons, List.nodup_cons]
    exact ⟨fun h => (by rw [memB_iff.2 h] at hΦ; cases hΦ), hw.nd⟩
  · rw [List.map_cons, List.nodup_cons]
    refine ⟨fun h => ?_, hw.ndd⟩
    obtain ⟨ψ, hψ, he⟩ := List.mem_map.1 h
    have := List.all_eq_true.1 hdd ψ hψ
    rw [he] at this
    simp at this
  · intro ψ hψ
    rcases List.mem_cons.1 hψ with rfl | hψ
    · exact fun h => by rw [memB_iff.2 h] at hS; cases hS
    · exact hw.ns ψ hψ
  · intro ψ hψ
    rcases List.mem_cons.1 hψ with rfl | hψ
    · exact hne
    · exact hw.ne ψ hψ
  · rcases List.mem_cons.1 hψ with rfl | hψ
    · exact hok
    · exact (hF ψ hψ).more
  · have : exF L bs (φ :: Φ) = exF L bs Φ := by
      have : φ.ex L bs = [] := by unfold Flt.ex; split <;> simp [hun]
      simp [exF, this]
    rw [this]; exact hcf.sat
  · rcases List.mem_cons.1 hψ with rfl | hψ
    · rw [hun] at hL; cases hL
    · exact hcf.val ψ hψ hL
def selF (sl : List Nat) : List Flt → List (Nat × AV)
  | [] => []
  | ⟨_, d, .inl x, _, _⟩ :: Φ => match memB d sl with | true => (d, x) :: selF sl Φ | false => selF sl Φ
  | ⟨_, _, .inr _, _, _⟩ :: Φ => selF sl Φ
def chkF (o : Oper) (sl : List Nat) : List Flt → Bool
  | [] => true
  | ⟨i, d, .inl _, _, _⟩ :: Φ => (!memB d sl || depsOk o [i]) && chkF o sl Φ
  | ⟨_, _, .inr _, _, _⟩ :: Φ => chkF o sl Φ
theorem selF_get {o : Oper} {sl : List Nat} {env : List (Nat × AV)} : ∀ {Φ : List Flt}, chkF o sl Φ = true → ∀ s y, lk (selF sl Φ ++ env) s = some y → lk env s = some y ∨ ∃ ψ ∈ Φ, ψ.d = s ∧ ψ.v = .inl y ∧ depsOk o [ψ.i] = true
  | [], _, s, y, h => .inl (by simpa [selF] using h)
  | ⟨i, d, .inl x, fr, O⟩ :: Φ, hc, s, y, h => by
    unfold chkF at hc
    rw [Bool.and_eq_true, Bool.or_eq_true] at hc
    have hrec : lk (selF sl Φ ++ env) s = some y → lk env s = some y ∨ ∃ ψ ∈ (⟨i, d, .inl x, fr, O⟩ :: Φ : List Flt), ψ.d = s ∧ ψ.v = .inl y ∧ depsOk o [ψ.i] = true := fun h => (selF_get hc.2 s y h).imp id fun ⟨ψ, h1, h2⟩ => ⟨ψ, by simp [h1], h2⟩
    unfold selF at h
    split at h
    · rename_i hb
      rcases lk_cons h with ⟨rfl, rfl⟩ | ⟨_, h⟩
      · refine .inr ⟨_, List.mem_cons_self, rfl, rfl, ?_⟩
        have := hc.1
        rw [hb] at this
        simpa using this
      · exact hrec h
    · exact hrec h
  | ⟨i, d, .inr z, fr, O⟩ :: Φ, hc, s, y, h => (selF_get (sl := sl) (Φ := Φ) hc s y h).imp id fun ⟨ψ, h1, h2⟩ => ⟨ψ, by simp [h1], h2⟩
/-- A quiet one begins to float. -/
theorem JX.q {S : List Nat} {Φ : List Flt} {o : Oper} {d : Nat} {x : AV} (i : Nat) (sl : List Nat) (ho : ops[i]? = some o) (hd : o.dst = some d) (hn : Nat.blt d n = true) (hS : memB i S = false) (hΦ : memB i (Φ.map (·.i)) = false) (hdd : (Φ.all fun ψ => !Nat.beq ψ.d d) = true) (hne : lk env d = none) (hc : chkF o sl Φ = true)
    (hs : ∀ ex, Step P E ops ⟨n, selF sl Φ ++ env, own ++ ex, F, D⟩ o x) (h : JX P E ops S (⟨i, d, .inl x, false, none⟩ :: Φ) ⟨n, env, own, F, D⟩ Q) : JX P E ops S Φ ⟨n, env, own, F, D⟩ Q :=
  .add ⟨i, d, .inl x, false, none⟩ hS hΦ hdd hne ⟨o, ho, hd, blt_lt hn, selF sl Φ ++ env, fun s y hl => (selF_get hc s y hl).imp id fun ⟨ψ, h1, h2⟩ => ⟨ψ, by simp [h1], h2⟩, (fun k en h => by cases h), fun own' h _ => by obtain ⟨ex, rfl⟩ := h rfl; exact hs ex⟩ h
/-- One that reads nothing that is owned. -/
theorem JX.f {S : List Nat} {Φ : List Flt} {o : Oper} {d : Nat} {x : AV} (i : Nat) (sl : List Nat) (ho : ops[i]? = some o) (hd : o.dst = some d) (hn : Nat.blt d n = true) (hS : memB i S = false) (hΦ : memB i (Φ.map (·.i)) = false) (hdd : (Φ.all fun ψ => !Nat.beq ψ.d d) = true) (hne : lk env d = none) (hc : chkF o sl Φ = true)
    (hs : ∀ own', Step P E ops ⟨n, selF sl Φ ++ env, own', F, D⟩ o x) (h : JX P E ops S (⟨i, d, .inl x, true, none⟩ :: Φ) ⟨n, env, own, F, D⟩ Q) : JX P E ops S Φ ⟨n, env, own, F, D⟩ Q :=
  .add ⟨i, d, .inl x, true, none⟩ hS hΦ hdd hne ⟨o, ho, hd, blt_lt hn, selF sl Φ ++ env, fun s y hl => (selF_get hc s y hl).imp id fun ⟨ψ, h1, h2⟩ => ⟨ψ, by simp [h1], h2⟩, (fun k en h => by cases h), fun own' _ _ => hs own'⟩ h
/-- One that reads one entry of what is owned. -/
theorem JX.o {S : List Nat} {Φ : List Flt} {o : Oper} {d : Nat} {x : AV} {en : Own} (i : Nat) (k : Nat) (sl : List Nat) (ho : ops[i]? = some o) (hd : o.dst = some d) (hn : Nat.blt d n = true) (hS : memB i S = false) (hΦ : memB i (Φ.map (·.i)) = false) (hdd : (Φ.all fun ψ => !Nat.beq ψ.d d) = true) (hne : lk env d = none) (hc : chkF o sl Φ = true) (hk : own[k]? = some en)
    (hs : ∀ own', own'[k]? = some en → Step P E ops ⟨n, selF sl Φ ++ env, own', F, D⟩ o x) (h : JX P E ops S (⟨i, d, .inl x, true, some (k, en)⟩ :: Φ) ⟨n, env, own, F, D⟩ Q) : JX P E ops S Φ ⟨n, env, own, F, D⟩ Q :=
  .add ⟨i, d, .inl x, true, some (k, en)⟩ hS hΦ hdd hne ⟨o, ho, hd, blt_lt hn, selF sl Φ ++ env, fun s y hl => (selF_get hc s y hl).imp id fun ⟨ψ, h1, h2⟩ => ⟨ψ, by simp [h1], h2⟩, (fun k' en' h => by cases h; exact hk), fun own' _ h => hs own' (h k en rfl)⟩ h
/-- A new variable. -/
theorem JX.a {S : List Nat} {Φ : List Flt} {o : Oper} {d : Nat} {z : List AV} (i : Nat) (ho : ops[i]? = some o) (ha : AllocOp P o d z) (hn : Nat.blt d n = true) (hS : memB i S = false) (hΦ : memB i (Φ.map (·.i)) = false) (hdd : (Φ.all fun ψ => !Nat.beq ψ.d d) = true) (hne : lk env d = none)
    (h : JX P E ops S (⟨i, d, .inr z, true, none⟩ :: Φ) ⟨n, env, own, F, D⟩ Q) : JX P E ops S Φ ⟨n, env, own, F, D⟩ Q :=
  .add ⟨i, d, .inr z, true, none⟩ hS hΦ hdd hne ⟨o, ho, ha.dst, blt_lt hn, ha⟩ h
/-- All are settled, or float: they come up, and the region ends. -/
theorem JX.fin {S : List Nat} {Φ : List Flt} (hbk : backB 0 ops.toList = true) (hall : ((List.range ops.size).all fun i => memB i S || memB i (Φ.map (·.i))) = true) (h : ∀ bs, Q .normal ⟨n, vlF bs Φ ++ env, own ++ bxF bs Φ, F, D⟩) : JX P E ops S Φ ⟨n, env, own, F, D⟩ Q := fun hw hF fuel => by
  have hend : ∀ L bs A a w, Cfg E ops n env own F D S Φ L bs A a w → (∀ j, j < ops.size → L.getD j false = true) → lift E Q .normal a w := fun L bs A a w hcf hd => by
    have hdn : ∀ φ ∈ Φ, L.getD φ.i false = true := fun φ hφ => by
      obtain ⟨o, ho, _⟩ := hF φ hφ
      exact hd _ (Array.getElem?_eq_some_iff.1 ho).1
    refine ⟨_, h bs, A, hcf.sat.size, hcf.sat.defers, hcf.sat.keep, by rw [← exF_done hdn]; exact hcf.sat.hp, fun s x hl => ?_, hcf.sat.facts⟩
    rcases lk_vlF hl with ⟨φ, hφ, rfl, rfl⟩ | hl
    · exact hcf.val φ hφ (hdn φ hφ)
    · exact hcf.sat.env s x hl
  have hdone : ∀ L bs A a w, Cfg E ops n env own F D S Φ L bs A a w → Region.ready .any ops L = [] → ∀ j, j < ops.size → L.getD j false = true := by
    intro L bs A a w hcf hr j
    induction j using Nat.strongRecOn with
    | _ j ihj =>
      intro hjl
      cases hL : L.getD j false with
      | true => rfl
      | false =>
        exfalso
        obtain ⟨oj, hoj⟩ : ∃ oj, ops[j]? = some oj := ⟨_, Array.getElem?_eq_getElem hjl⟩
        have : j ∈ Region.ready .any ops L := ready_mem hcf.size hoj (by rw [getD_same (by rw [hcf.size]; exact hjl)]; exact hL) fun e he hb => by
          have hon := backB_lt hbk (i := j) (o := oj) (by simpa using hoj) e he hb
          exact ihj e.on (by omega) (by omega)
        rw [hr] at this
        cases this
  induction fuel with
  | zero =>
    intro L bs A a w hc hcf
    have hnil : Region.ready .any ops L = [] := by
      rw [List.eq_nil_iff_forall_not_mem]
      intro i hi
      obtain ⟨hlt, o, ho, hun, _⟩ := mem_ready hi
      have := List.countP_eq_zero.1 (Nat.le_zero.1 hc) i (by simpa using hlt)
      simp [hun] at this
    exact ⟨hnil, hend L bs A a w hcf (hdone L bs A a w hcf hnil)⟩
  | succ fuel ih =>
    intro L bs A a w hc hcf
    refine ⟨fun hr => hend L bs A a w hcf (hdone L bs A a w hcf hr), fun j hj => ?_⟩
    obtain ⟨hjl, oj, hoj, hunj, hdeps⟩ := mem_ready hj
    have hunj' : L.getD j false = false := by rw [← getD_same (by rw [hcf.size]; exact hjl)]; exact hunj
    have h1 := List.all_eq_true.1 hall j (by simpa using hjl)
    rw [Bool.or_eq_true] at h1
    rcases h1 with h1 | h1
    · rw [hcf.yes j (memB_iff.1 h1)] at hunj'; cases hunj'
    · obtain ⟨φ, hφ, rfl⟩ := List.mem_map.1 (memB_iff.1 h1)
      exact hcf.run hw hF hφ hunj' hjl (fun o' ho' => by rw [hoj] at ho'; cases ho'; exact hdeps) fun bs' A' a' w' hcf' => ih _ bs' A' a' w' (cnt_run hcf.size hjl hunj hc) hcf'
theorem J.regionX {id : Nat} {l : List Oper} (hm : P.follows .mixedOrders = true) (h : JX P E l.toArray [] [] ⟨n, dropEnv (dsts l) env, own, F, D⟩ Q) : J P E (.region id l.toArray true) ⟨n, env, own, F, D⟩ Q := fun a w ⟨A, hA⟩ => by
  have h0 : ∀ i, (Array.replicate l.toArray.size false).getD i false = false := fun i => by simp only [Array.getD_eq_getD_getElem?, Array.getElem?_replicate]; split <;> simp
  have hd := hA.drawn
  refine wpIn_region_any hm (h ⟨List.nodup_nil, List.nodup_nil, fun φ h => (by cases h), fun φ h => (by cases h)⟩ (fun φ h => by cases h) l.toArray.size _ (fun _ => 0) A a _ (Nat.le_trans List.countP_le_length (by simp)) ⟨by simp, fun i h => (by cases h), fun i _ _ => h0 i, fun i o _ hL => (by rw [h0] at hL; cases hL), ?_, fun φ h => by cases h⟩)
  have : exF (Array.replicate l.toArray.size false) (fun _ => 0) [] = [] := rfl
  rw [this, List.append_nil]
  exact ⟨hd.size, hd.defers, hd.keep, hd.hp, fun s y hl => hd.env s y (lk_filter (fun k => !((dsts l).any (Nat.beq k))) env s y hl).1, hd.facts⟩
/-- The same, in the form in which the walks use it. -/
theorem JX.one {S : List Nat} {Φ : List Flt} (i : Nat) (ms : List Bool) {o : Oper} (ho : ops[i]? = some o) (hbk : backB 0 ops.toList = true) (hblk : blkB ops.toList S (Φ.map (·.i)) i = true) (hS : memB i S = false) (hΦ : memB i (Φ.map (·.i)) = false)
    (hlnd : lndB ops.toList o [] ((tkM ms Φ).map (·.i)) = true) (hfre : (lvM ms Φ).all (·.fre) = true)
    (h : ∀ bs pe ex, JL P E ops [o] ⟨n, vlF bs (tkM ms Φ) ++ (env ++ pe), own ++ (bxF bs (tkM ms Φ) ++ ex), F, D⟩ (thenQ (fun s => ∃ ev own', s.n = n ∧ s.env = ev ++ (vlF bs (tkM ms Φ) ++ (env ++ pe)) ∧ s.facts = F ∧ s.dfs = D ∧ ev.all (fun p => o.dst == some p.1) = true ∧ Reown s.own (own' ++ ex) ∧
      (match o.dst with | some d => (Φ.all fun φ => !Nat.beq φ.d d) = true ∧ lk env d = none | none => True) ∧ okO own' (lvM ms Φ) ∧ JX P E ops (i :: ((tkM ms Φ).map (·.i) ++ S)) (lvM ms Φ) ⟨n, ev ++ (vlF bs (tkM ms Φ) ++ env), own', F, D⟩ Q) Q)) : JX P E ops S Φ ⟨n, env, own, F, D⟩ Q :=
  .step i ms ho hbk hblk hS hΦ hlnd hfre fun bs pe ex a w hs => by
    have := h bs pe ex a w hs
    refine wpListIn_monoN this fun a' w' ⟨s, ⟨ev, own', h1, h2, h3, h4, h5, h6, h7, h8, h9⟩, hs'⟩ => ⟨s, ⟨ev, _, own', h1, by rw [h2]; simp, h3, h4, rfl, h5, h6, h7, h8, h9⟩, hs'⟩
theorem JX.conv {S S' : List Nat} {Φ Φ' : List Flt} {st st' : St} (hS : S = S') (hΦ : Φ = Φ') (hst : st = st') (h : JX P E ops S' Φ' st' Q) : JX P E ops S Φ st Q := by subst hS hΦ hst; exact h
theorem QX.conv {Q : Exit → St → Prop} {st st' : St} (h : st = st') (k : Q .normal st') : Q .normal st := h ▸ k
theorem Reown.tkN (k : Nat) {l ex : List Own} (h : l.drop k = ex) : Reown l (l.take k ++ ex) := .ofEq (by subst h; exact (List.take_append_drop k l).symm)
end
end Go.Proofs.Ytkiankpmkglhcaa.J

/- Walks: the page sets a part of a value by a path. -/
namespace Go.Proofs.Ytkiankpmkglhcaa.J
open Go Go.RowKit
set_option linter.unusedVariables false
set_option linter.unusedSimpArgs false
set_option maxRecDepth 10000
set_option maxHeartbeats 4000000
end Go.Proofs.Ytkiankpmkglhcaa.J

/- Walks: the page sets a part; what is alive. -/
namespace Go.Proofs.Ytkiankpmkglhcaa.J
open Go Go.RowKit
set_option linter.unusedVariables false
set_option linter.unusedSimpArgs false
set_option maxRecDepth 10000
set_option maxHeartbeats 4000000
end Go.Proofs.Ytkiankpmkglhcaa.J

/- Walks: ValueTells, ValueParts, ValueOwn. -/
namespace Go.Proofs.Ytkiankpmkglhcaa.J
open Go Go.RowKit
set_option linter.unusedVariables false
set_option linter.unusedSimpArgs false
set_option maxRecDepth 10000
set_option maxHeartbeats 4000000
end Go.Proofs.Ytkiankpmkglhcaa.J

/- Walks: values as octets. -/
namespace Go.Proofs.Ytkiankpmkglhcaa.J
open Go Go.RowKit
set_option linter.unusedVariables false
set_option linter.unusedSimpArgs false
set_option maxRecDepth 10000
set_option maxHeartbeats 4000000
def OctR (L : List UInt8) : AV → List Own → Prop := fun x o => ∃ v, x = .c v ∧ o = [.arr v eU8 (bytesAV L)]
theorem bytesAV_one {n : Nat} (h : n < 256) : bytesAV [UInt8.ofNat n] = [[.c (.int .u8 (n : Int))]] := by
  simp [bytesAV]; omega
theorem bytesAV_cons {n : Nat} (h : n < 256) (l : List UInt8) : bytesAV (UInt8.ofNat n :: l) = [[.c (.int .u8 (n : Int))]] ++ bytesAV l := by
  rw [← bytesAV_one h, ← bytesAV_append]; rfl
theorem shr8 {b j : Nat} (hj : j < 8) : (b : Int).fdiv (2 ^ (min ((56 : Int) - 8 * (j : Int)).toNat IntKind.u64.bits)) = ((b / 2 ^ (56 - 8 * j) : Nat) : Int) := by
  rw [← shr_nat]
  congr 2
  have : IntKind.u64.bits = 64 := rfl
  omega
theorem be8_get {b j : Nat} (hj : j < 8) : (be8 b)[j]? = some (UInt8.ofNat (b / 2 ^ (56 - 8 * j) % 256)) := by simp [be8, hj]
theorem be8_take {b j : Nat} (hj : j < 8) : (be8 b).take (j + 1) = (be8 b).take j ++ [UInt8.ofNat (b / 2 ^ (56 - 8 * j) % 256)] := by
  rw [List.take_add_one, be8_get hj]; rfl
theorem encs_drop {r : Bool} {ks : List Str} {l : List V} {j : Nat} (h : j < l.length) : V.encs r (ks.drop j) (l.drop j) = (if r = true then UInt8.ofNat (ks.getD j []).length :: ks.getD j [] else []) ++ (l[j].enc ++ V.encs r (ks.drop (j + 1)) (l.drop (j + 1))) := by
  rw [List.drop_eq_getElem_cons h, V.encs, List.tail_drop]
  have : (ks.drop j).headD [] = ks.getD j [] := by
    rw [List.headD_eq_head?_getD, List.head?_drop]; simp [List.getD]
  rw [this]
theorem encs_end {r : Bool} {ks : List Str} {l : List V} {j : Nat} (h : l.length ≤ j) : V.encs r (ks.drop j) (l.drop j) = [] := by
  rw [List.drop_of_length_le h, V.encs]
theorem octets_n  : ∀ (n : Nat) {v : V} {ys : List AV} {fr : Bool} {l : List UInt8} {bv : Value}, Vc fr v ys → v.wf → v.Fine → (l ++ v.enc).length ≤ reach → v.sz ≤ n → AC Try.prog 104 [.arr bv eU8 (bytesAV l)] [.c bv, .agg ys] (RetR (OctR (l ++ v.enc))) := by
  intro n
  induction n with
  | zero => intro v ys fr l bv hv hw hf hl h; exact absurd h (by have := V.sz_pos v; omega)
  | succ n ih =>
    intro v ys fr l bv hv hw hf hl hn
    obtain ⟨k, b, t, ks, is⟩ := v
    subst hv
    obtain ⟨-, hb64, -, hk16, hi80, -, hwi⟩ := hw.inv
    have hsh := partOk_shape hf.part
    rw [List.length_append] at hl
    refine AC.of_J Try.func104 rfl Try.ntmps104 rfl fun w0 A0 => ?_
    refine J.seq ?_
    refine J.region_lit ?_
    refine JL.box_agg (.tmp rfl) rfl fun b3 => ?_
    refine JL.q rfl rfl rfl (QW.assign .const) ?_
    refine JL.nil ?_
    refine thenQ.n ?_
    refine J.seq ?_
    refine J.seq ?_
    refine J.region_lit ?_
    refine JL.q rfl rfl rfl (QW.field_ptr fo26_0 (.tmp rfl) rfl) ?_
    refine JL.q rfl rfl rfl (QW.load_box1 0 ty3 (.tmp rfl) rfl rfl) ?_
    refine JL.nil ?_
    refine thenQ.n ?_
    refine J.block ?_
    refine J.seq ?_
    refine J.region_lit ?_
    refine JL.q rfl rfl rfl (QW.eql (.tmp rfl) .const) ?_
    refine JL.q rfl rfl rfl (QW.assign (.tmp rfl)) ?_
    refine JL.nil ?_
    refine thenQ.n ?_
    refine J.cond (.tmp rfl) (fun c1 => ?_) (fun c1 => ?_)
    · skip
      obtain rfl : k = 0 := by simpa using c1
      have he : (V.mk 0 b t ks is).enc = [0] := by rw [V.enc, if_pos rfl]
      rw [he] at hl
      simp only [List.length_singleton] at hl
      refine J.seq ?_
      refine J.region_lit ?_
      refine JL.q rfl rfl rfl (QW.move (.tmp rfl)) ?_
      refine JL.q rfl rfl rfl (QW.buildSlice (idx := [0]) (xs := [[.c (.int .u8 0)]]) sl121 el5 z5 rfl (.cons .const .nil) rfl rfl rfl rfl rfl rfl rfl rfl rfl) ?_
      refine JL.append 1 sl121 el5 rfl (.tmp rfl) rfl (srcA_sl sl121 (.tmp rfl)) (by simp only [List.length_append, List.length_cons, List.length_nil, bytesAV_length, List.length_take, be8_length] <;> (show _ * 1 ≤ _) <;> omega) rfl fun v14 => ?_
      refine JL.q rfl rfl rfl (QW.assign (.tmp rfl)) ?_
      refine JL.nil ?_
      refine thenQ.n ?_
      refine J.ret ?_
      refine blkQ.r ?_
      refine thenQ.r ?_
      exact ⟨_, selP [.k, .p] _, _, RetEv.one rfl (REv.tmp rfl (.refl _)), rfl, sel_perm [.k, .p] _, ⟨_, rfl, _, rfl, congrArg (fun z => [Own.arr _ eU8 z]) (by rw [he, bytesAV_append]; rfl)⟩⟩
    · skip
      have k0 : k ≠ 0 := by simpa using c1
      refine J.seq ?_
      refine J.region_lit ?_
      refine JL.q rfl rfl rfl (QW.eql (.tmp rfl) .const) ?_
      refine JL.q rfl rfl rfl (QW.assign (.tmp rfl)) ?_
      refine JL.nil ?_
      refine thenQ.n ?_
      refine J.cond (.tmp rfl) (fun c2 => ?_) (fun c2 => ?_)
      · skip
        obtain rfl : k = 1 := by simpa using c2
        have hb1 : b ≤ 1 := by rcases hsh with h | h | h | h | h | h <;> first | exact h.2.1 | (have := h.1; omega)
        have he : (V.mk 1 b t ks is).enc = [UInt8.ofNat (1 + b)] := by rw [V.enc, if_neg (by decide), if_pos rfl]
        rw [he] at hl
        simp only [List.length_singleton] at hl
        refine J.seq ?_
        refine J.region_lit ?_
        refine JL.q rfl rfl rfl (QW.move (.tmp rfl)) ?_
        refine JL.q rfl rfl rfl (QW.field_ptr fo26_1 (.tmp rfl) rfl) ?_
        refine JL.q rfl rfl rfl (QW.load_box1 0 ty22 (.tmp rfl) rfl rfl) ?_
        refine JL.q rfl rfl rfl (QW.conv_int us22 iu5 (.tmp rfl) (by first | exact wu8 (by omega) | rfl)) ?_
        refine JL.q rfl rfl rfl (QW.add .const (.tmp rfl) (by first | exact wu8 (by omega) | rfl)) ?_
        refine JL.q rfl rfl rfl (QW.buildSlice (idx := [0]) (xs := [[.c (.int .u8 (1 + (b : Int)))]]) sl121 el5 z5 rfl (.cons (.tmp rfl) .nil) rfl rfl rfl rfl rfl rfl rfl rfl rfl) ?_
        refine JL.append 1 sl121 el5 rfl (.tmp rfl) rfl (srcA_sl sl121 (.tmp rfl)) (by simp only [List.length_append, List.length_cons, List.length_nil, bytesAV_length, List.length_take, be8_length] <;> (show _ * 1 ≤ _) <;> omega) rfl fun v23 => ?_
        refine JL.q rfl rfl rfl (QW.assign (.tmp rfl)) ?_
        refine JL.nil ?_
        refine thenQ.n ?_
        refine J.ret ?_
        refine blkQ.r ?_
        refine thenQ.r ?_
        exact ⟨_, selP [.k, .p] _, _, RetEv.one rfl (REv.tmp rfl (.refl _)), rfl, sel_perm [.k, .p] _, ⟨_, rfl, _, rfl, congrArg (fun z => [Own.arr _ eU8 z]) (by rw [he, bytesAV_append, bytesAV_one (by omega)]; rfl)⟩⟩
      · skip
        have k1 : k ≠ 1 := by simpa using c2
        refine J.seq ?_
        refine J.region_lit ?_
        refine JL.q rfl rfl rfl (QW.eql (.tmp rfl) .const) ?_
        refine JL.q rfl rfl rfl (QW.assign (.tmp rfl)) ?_
        refine JL.nil ?_
        refine thenQ.n ?_
        refine J.cond (.tmp rfl) (fun c3 => ?_) (fun c3 => ?_)
        · skip
          obtain rfl : k = 2 := by simpa using c3
          have he : (V.mk 2 b t ks is).enc = 3 :: be8 b := by rw [V.enc, if_neg (by decide), if_neg (by decide), if_pos rfl]
          rw [he] at hl
          simp only [List.length_cons, be8_length] at hl
          refine J.seq ?_
          refine J.region_lit ?_
          refine JL.q rfl rfl rfl (QW.move (.tmp rfl)) ?_
          refine JL.q rfl rfl rfl (QW.buildSlice (idx := [0]) (xs := [[.c (.int .u8 3)]]) sl121 el5 z5 rfl (.cons .const .nil) rfl rfl rfl rfl rfl rfl rfl rfl rfl) ?_
          refine JL.append 1 sl121 el5 rfl (.tmp rfl) rfl (srcA_sl sl121 (.tmp rfl)) (by simp only [List.length_append, List.length_cons, List.length_nil, bytesAV_length, List.length_take, be8_length] <;> (show _ * 1 ≤ _) <;> omega) rfl fun v28 => ?_
          refine JL.q rfl rfl rfl (QW.assign (.tmp rfl)) ?_
          refine JL.nil ?_
          refine thenQ.n ?_
          refine J.seq ?_
          refine J.seq ?_
          refine J.region_lit ?_
          refine JL.q rfl rfl rfl (QW.assign .const) ?_
          refine JL.nil ?_
          refine thenQ.n ?_
          refine J.block ?_
          refine J.loopK (ι := Nat × Value) [3, 4] (fun ⟨j, av⟩ => [(0, .c av), (5, .c (.int .i64 (56 - 8 * (j : Int))))]) (fun ⟨j, av⟩ oo => List.set oo 1 (.arr av eU8 (bytesAV (l ++ (3 :: (be8 b).take j))))) (fun ⟨j, av⟩ => j ≤ 8) (fun ⟨j, av⟩ => 8 - j) ⟨0, v28⟩ (Nat.zero_le _) (Wk.re (.cons rfl (.refl _) (.cons rfl (.refl _) (.cons rfl (.refl _) (.cons rfl (.refl _) .nil)))) (Reown.ofEq (by show [Own.box b3 _, Own.arr v28 eU8 (bytesAV l ++ [[.c (.int .u8 3)]])] = [Own.box b3 _, Own.arr v28 eU8 (bytesAV (l ++ [3]))]; rw [bytesAV_append]; rfl)) (fun _ h => by first | exact h | simp [h])) ?_
          intro ⟨j, av⟩ hj
          refine J.conv (by (try simp only [id_eq, stepsO, List.map_cons, List.map_nil, valO, nthO, curO, mrg, List.reverse_cons, List.reverse_nil, List.nil_append, List.cons_append, List.append_nil, List.getElem?_cons_zero, List.getElem?_cons_succ, Option.map_some, Option.getD_some, List.set_cons_zero, List.set_cons_succ, AV.cellsOf, splice_zero, splice_succ, Nat.zero_add, Nat.reduceAdd]); rfl) ?_
          refine J.seq ?_
          refine J.seq ?_
          refine J.region_lit ?_
          refine JL.q rfl rfl rfl (QW.move (.tmp rfl)) ?_
          refine JL.q rfl rfl rfl (QW.geq (.tmp rfl) .const) ?_
          refine JL.nil ?_
          refine thenQ.n ?_
          refine J.cond (.tmp rfl) (fun c4 => ?_) (fun c4 => ?_)
          · skip
            have hlt : j < 8 := by (simp at c4; omega)
            refine J.skip ?_
            refine thenQ.n ?_
            refine J.seq ?_
            refine J.block ?_
            refine J.region_lit ?_
            refine JL.q rfl rfl rfl (QW.move (.tmp rfl)) ?_
            refine JL.q rfl rfl rfl (QW.field_ptr fo26_1 (.tmp rfl) rfl) ?_
            refine JL.q rfl rfl rfl (QW.load_box1 0 ty22 (.tmp rfl) rfl rfl) ?_
            refine JL.q rfl rfl rfl (QW.move (.tmp rfl)) ?_
            refine JL.q rfl rfl rfl (QW.shr (.tmp rfl) (.tmp rfl) (by omega) (shr8 hlt)) ?_
            refine JL.q rfl rfl rfl (QW.conv_int us22 iu5 (.tmp rfl) (c := ((b / 2 ^ (56 - 8 * j) % 256 : Nat) : Int)) (by rw [wu8_mod]; omega)) ?_
            refine JL.q rfl rfl rfl (QW.buildSlice (idx := [0]) (xs := [[.c (.int .u8 ((b / 2 ^ (56 - 8 * j) % 256 : Nat) : Int))]]) sl121 el5 z5 rfl (.cons (.tmp rfl) .nil) rfl rfl rfl rfl rfl rfl rfl rfl rfl) ?_
            refine JL.append 1 sl121 el5 rfl (.tmp rfl) rfl (srcA_sl sl121 (.tmp rfl)) (by simp only [List.length_append, List.length_cons, List.length_nil, bytesAV_length, List.length_take, be8_length] <;> (show _ * 1 ≤ _) <;> omega) rfl fun v40 => ?_
            refine JL.q rfl rfl rfl (QW.assign (.tmp rfl)) ?_
            refine JL.nil ?_
            refine blkQ.n ?_
            refine thenQ.n ?_
            refine J.region_lit ?_
            refine JL.q rfl rfl rfl (QW.move (.tmp rfl)) ?_
            refine JL.q rfl rfl rfl (QW.sub (c := 56 - 8 * ((j + 1 : Nat) : Int)) (.tmp rfl) .const (by rw [w64 (by omega)]; omega)) ?_
            refine JL.q rfl rfl rfl (QW.assign (.tmp rfl)) ?_
            refine JL.nil ?_
            refine thenQ.n ?_
            exact ⟨⟨j + 1, v40⟩, hlt, by show 8 - (j + 1) < 8 - j; omega, Wk.re (.cons rfl (.refl _) (.cons rfl (.refl _) (.cons rfl (.refl _) (.cons rfl (.refl _) .nil)))) (Reown.ofEq (by show [Own.box b3 _, Own.arr v40 eU8 (bytesAV (l ++ (3 :: (be8 b).take j)) ++ [[.c (.int .u8 ((b / 2 ^ (56 - 8 * j) % 256 : Nat) : Int))]])] = [Own.box b3 _, Own.arr v40 eU8 (bytesAV (l ++ (3 :: (be8 b).take (j + 1))))]; rw [be8_take hlt, ← List.cons_append, ← List.append_assoc, bytesAV_append _ [_], bytesAV_one (Nat.mod_lt _ (by decide))])) (fun _ h => by first | exact h | simp [h])⟩
          · skip
            obtain rfl : j = 8 := by (simp at c4; omega)
            refine J.exit ?_
            refine thenQ.x ?_
            refine thenQ.x ?_
            refine blkQ.hit ?_
            refine thenQ.n ?_
            refine J.seq ?_
            refine J.region_lit ?_
            refine JL.q rfl rfl rfl (QW.move (.tmp rfl)) ?_
            refine JL.q rfl rfl rfl (QW.assign (.tmp rfl)) ?_
            refine JL.nil ?_
            refine thenQ.n ?_
            refine J.ret ?_
            refine blkQ.r ?_
            refine thenQ.r ?_
            exact ⟨_, selP [.k, .p] _, _, RetEv.one rfl (REv.tmp rfl (.refl _)), rfl, sel_perm [.k, .p] _, ⟨_, rfl, _, rfl, congrArg (fun z => [Own.arr _ eU8 z]) (by rw [he]; rfl)⟩⟩
        · skip
          have k2 : k ≠ 2 := by simpa using c3
          refine J.seq ?_
          refine J.region_lit ?_
          refine JL.q rfl rfl rfl (QW.eql (.tmp rfl) .const) ?_
          refine JL.q rfl rfl rfl (QW.assign (.tmp rfl)) ?_
          refine JL.nil ?_
          refine thenQ.n ?_
          refine J.cond (.tmp rfl) (fun c4 => ?_) (fun c4 => ?_)
          · skip
            obtain rfl : k = 3 := by simpa using c4
            have ht8 : t.length ≤ 128 := by rcases hsh with h | h | h | h | h | h <;> first | exact h.2.2.1 | (have := h.1; omega)
            have he : (V.mk 3 b t ks is).enc = 4 :: UInt8.ofNat t.length :: t := by rw [V.enc, if_neg (by decide), if_neg (by decide), if_neg (by decide), if_pos rfl]
            rw [he] at hl
            simp only [List.length_cons] at hl
            refine J.seq ?_
            refine J.regionX mixed ?_
            refine JX.f 0 [] rfl rfl rfl rfl rfl rfl rfl rfl (fun ow_ => (.q rfl (QW.move (.tmp rfl)))) ?_
            refine JX.f 1 [] rfl rfl rfl rfl rfl rfl rfl rfl (fun ow_ => (.q rfl (QW.field_ptr fo26_2 (.tmp rfl) rfl))) ?_
            refine JX.o 2 0 [45] rfl rfl rfl rfl rfl rfl rfl rfl rfl (fun ow_ ho_ => (.q rfl (QW.load_box1 0 ty9 (.tmp rfl) ho_ rfl))) ?_
            refine JX.f 3 [46] rfl rfl rfl rfl rfl rfl rfl rfl (fun ow_ => (.q rfl (QW.len_s st9 (.tmp rfl)))) ?_
            refine JX.f 4 [47] rfl rfl rfl rfl rfl rfl rfl rfl (fun ow_ => (.q rfl (QW.conv_int us3 iu5 (.tmp rfl) (by first | exact wu8 (by omega) | rfl)))) ?_
            refine JX.f 5 [48] rfl rfl rfl rfl rfl rfl rfl rfl (fun ow_ => (.q rfl (QW.buildSlice (idx := [0, 1]) (xs := [[.c (.int .u8 4)], [.c (.int .u8 (t.length : Int))]]) sl121 el5 z5 rfl (.cons .const (.cons (.tmp rfl) .nil)) rfl rfl rfl rfl rfl rfl rfl rfl rfl))) ?_
            refine JX.f 7 [] rfl rfl rfl rfl rfl rfl rfl rfl (fun ow_ => (.q rfl (QW.field_ptr fo26_2 (.tmp rfl) rfl))) ?_
            refine JX.o 8 0 [51] rfl rfl rfl rfl rfl rfl rfl rfl rfl (fun ow_ ho_ => (.q rfl (QW.load_box1 0 ty9 (.tmp rfl) ho_ rfl))) ?_
            refine JX.one 6 [false, false, true, true, true, true, true, true] rfl (by kernel_rfl) (by kernel_rfl) rfl rfl (by kernel_rfl) rfl fun bs6_ pe_ ex_ => ?_
            refine JL.conv (by (try simp only [vlF, bxF, tkM, lvM, Flt.val, Flt.bx, List.append_assoc, List.take_succ_cons, List.take_zero, List.append_eq, id_eq, stepsO, List.map_cons, List.map_nil, valO, nthO, curO, mrg, List.reverse_cons, List.reverse_nil, List.nil_append, List.cons_append, List.append_nil, List.getElem?_cons_zero, List.getElem?_cons_succ, Option.map_some, Option.getD_some, List.set_cons_zero, List.set_cons_succ, AV.cellsOf, splice_zero, splice_succ, Nat.zero_add, Nat.reduceAdd]); rfl) ?_
            refine JL.append 1 sl121 el5 rfl (.tmp rfl) rfl (srcA_sl sl121 (.tmp rfl)) (by simp only [List.length_append, List.length_cons, List.length_nil, bytesAV_length, List.length_take, be8_length] <;> (show _ * 1 ≤ _) <;> omega) rfl fun v50 => ?_
            refine JL.nil ?_
            refine thenQ.n ⟨[_], _, rfl, rfl, rfl, rfl, rfl, Reown.tkN 2 rfl, ⟨rfl, rfl⟩, ⟨rfl, ⟨trivial, trivial⟩⟩, ?_⟩
            refine JX.conv (S' := [6, 5, 4, 3, 2, 1, 0]) rfl (by (try simp only [lvM]); rfl) (by (try simp only [vlF, bxF, tkM, lvM, Flt.val, Flt.bx, List.append_assoc, List.take_succ_cons, List.take_zero, List.append_eq, id_eq, stepsO, List.map_cons, List.map_nil, valO, nthO, curO, mrg, List.reverse_cons, List.reverse_nil, List.nil_append, List.cons_append, List.append_nil, List.getElem?_cons_zero, List.getElem?_cons_succ, Option.map_some, Option.getD_some, List.set_cons_zero, List.set_cons_succ, AV.cellsOf, splice_zero, splice_succ, Nat.zero_add, Nat.reduceAdd]); rfl) ?_
            refine JX.one 9 [true, true] rfl (by kernel_rfl) (by kernel_rfl) rfl rfl (by kernel_rfl) rfl fun bs9_ pe_ ex_ => ?_
            refine JL.conv (by (try simp only [vlF, bxF, tkM, lvM, Flt.val, Flt.bx, List.append_assoc, List.take_succ_cons, List.take_zero, List.append_eq, id_eq, stepsO, List.map_cons, List.map_nil, valO, nthO, curO, mrg, List.reverse_cons, List.reverse_nil, List.nil_append, List.cons_append, List.append_nil, List.getElem?_cons_zero, List.getElem?_cons_succ, Option.map_some, Option.getD_some, List.set_cons_zero, List.set_cons_succ, AV.cellsOf, splice_zero, splice_succ, Nat.zero_add, Nat.reduceAdd]); rfl) ?_
            refine JL.append 1 sl121 el5 rfl (.tmp rfl) rfl (srcA_str st9 (.tmp rfl)) (by simp only [List.length_append, List.length_cons, List.length_nil, bytesAV_length, List.length_take, be8_length] <;> (show _ * 1 ≤ _) <;> omega) rfl fun v53 => ?_
            refine JL.nil ?_
            refine thenQ.n ⟨[_], _, rfl, rfl, rfl, rfl, rfl, Reown.tkN 2 rfl, ⟨rfl, rfl⟩, trivial, ?_⟩
            refine JX.conv (S' := [9, 8, 7, 6, 5, 4, 3, 2, 1, 0]) rfl (by (try simp only [lvM]); rfl) (by (try simp only [vlF, bxF, tkM, lvM, Flt.val, Flt.bx, List.append_assoc, List.take_succ_cons, List.take_zero, List.append_eq, id_eq, stepsO, List.map_cons, List.map_nil, valO, nthO, curO, mrg, List.reverse_cons, List.reverse_nil, List.nil_append, List.cons_append, List.append_nil, List.getElem?_cons_zero, List.getElem?_cons_succ, Option.map_some, Option.getD_some, List.set_cons_zero, List.set_cons_succ, AV.cellsOf, splice_zero, splice_succ, Nat.zero_add, Nat.reduceAdd]); rfl) ?_
            refine JX.f 10 [53] rfl rfl rfl rfl rfl rfl rfl rfl (fun ow_ => (.q rfl (QW.assign (.tmp rfl)))) ?_
            refine JX.fin (by kernel_rfl) (by kernel_rfl) fun bs_ => ?_
            refine QX.conv (by (try simp only [vlF, bxF, tkM, lvM, Flt.val, Flt.bx, List.append_assoc, List.take_succ_cons, List.take_zero, List.append_eq, id_eq, stepsO, List.map_cons, List.map_nil, valO, nthO, curO, mrg, List.reverse_cons, List.reverse_nil, List.nil_append, List.cons_append, List.append_nil, List.getElem?_cons_zero, List.getElem?_cons_succ, Option.map_some, Option.getD_some, List.set_cons_zero, List.set_cons_succ, AV.cellsOf, splice_zero, splice_succ, Nat.zero_add, Nat.reduceAdd]); rfl) ?_
            refine thenQ.n ?_
            refine J.ret ?_
            refine blkQ.r ?_
            refine thenQ.r ?_
            exact ⟨_, selP [.k, .p] _, _, RetEv.one rfl (REv.tmp rfl (.refl _)), rfl, sel_perm [.k, .p] _, ⟨_, rfl, _, rfl, congrArg (fun z => [Own.arr _ eU8 z]) (by rw [he, bytesAV_append, show (4 : UInt8) = UInt8.ofNat 4 from rfl, bytesAV_cons (by decide), bytesAV_cons (by omega)]; simp)⟩⟩
          · skip
            have k3 : k ≠ 3 := by simpa using c4
            have hk : k = 4 ∨ k = 5 := by rcases hsh with h | h | h | h | h | h <;> (have := h.1; omega)
            have hil : is.length ≤ 32 := by rcases hsh with h | h | h | h | h | h <;> first | exact h.2.2.2.2 | exact h.2.2.2.1 | (have := h.1; omega)
            have hkl : k = 5 → ks.length = is.length ∧ ∀ s ∈ ks, s.length ≤ 16 := fun e => by rcases hsh with h | h | h | h | h | h <;> first | exact ⟨h.2.2.2.2.1, keysOk_len h.2.2.2.2.2⟩ | (have := h.1; omega)
            have he : (V.mk k b t ks is).enc = UInt8.ofNat (k + 1).toNat :: UInt8.ofNat is.length :: V.encs (decide (k = 5)) ks is := by rw [V.enc, if_neg k0, if_neg k1, if_neg k2, if_neg k3]
            rw [he] at hl
            simp only [List.length_cons] at hl
            refine J.skip ?_
            refine blkQ.n ?_
            refine thenQ.n ?_
            refine J.seq ?_
            refine J.region_lit ?_
            refine JL.q rfl rfl rfl (QW.move (.tmp rfl)) ?_
            refine JL.q rfl rfl rfl (QW.field_ptr fo26_0 (.tmp rfl) rfl) ?_
            refine JL.q rfl rfl rfl (QW.load_box1 0 ty3 (.tmp rfl) rfl rfl) ?_
            refine JL.q rfl rfl rfl (QW.add (.tmp rfl) .const (by first | exact w64n (by first | rfl | omega | (simp; done)) (by omega) | exact w64 (by omega) | rfl)) ?_
            refine JL.q rfl rfl rfl (QW.conv_int us3 iu5 (.tmp rfl) (by first | exact wu8 (by omega) | rfl)) ?_
            refine JL.q rfl rfl rfl (QW.field_ptr fo26_4 (.tmp rfl) rfl) ?_
            refine JL.q rfl rfl rfl (QW.load_box1 0 ty24 (.tmp rfl) rfl rfl) ?_
            refine JL.q rfl rfl rfl (by first | exact QW.len_slE sl24 (.tmp rfl) (keysAV_length _) | exact QW.len_slE sl24 (.tmp rfl) (V.css_length _ _) | exact QW.len_sl sl24 (.tmp rfl) | exact QW.len_nil sl24 (.tmp rfl)) ?_
            refine JL.q rfl rfl rfl (QW.conv_int us3 iu5 (.tmp rfl) (by first | exact wu8 (by omega) | rfl)) ?_
            refine JL.q rfl rfl rfl (QW.buildSlice (idx := [0, 1]) (xs := [[.c (.int .u8 (k + 1))], [.c (.int .u8 (is.length : Int))]]) sl121 el5 z5 rfl (.cons (.tmp rfl) (.cons (.tmp rfl) .nil)) rfl rfl rfl rfl rfl rfl rfl rfl rfl) ?_
            refine JL.append 1 sl121 el5 rfl (.tmp rfl) rfl (srcA_sl sl121 (.tmp rfl)) (by simp only [List.length_append, List.length_cons, List.length_nil, bytesAV_length, List.length_take, be8_length] <;> (show _ * 1 ≤ _) <;> omega) rfl fun v64 => ?_
            refine JL.q rfl rfl rfl (QW.assign (.tmp rfl)) ?_
            refine JL.nil ?_
            refine thenQ.n ?_
            refine J.seq ?_
            refine J.seq ?_
            refine J.region_lit ?_
            refine JL.q rfl rfl rfl (QW.field_ptr fo26_4 (.tmp rfl) rfl) ?_
            refine JL.q rfl rfl rfl (QW.load_box1 0 ty24 (.tmp rfl) rfl rfl) ?_
            refine JL.q rfl rfl rfl (by first | exact QW.len_slE sl24 (.tmp rfl) (keysAV_length _) | exact QW.len_slE sl24 (.tmp rfl) (V.css_length _ _) | exact QW.len_sl sl24 (.tmp rfl) | exact QW.len_nil sl24 (.tmp rfl)) ?_
            refine JL.q rfl rfl rfl (QW.move .const) ?_
            refine JL.nil ?_
            refine thenQ.n ?_
            refine J.block ?_
            refine J.loopK (ι := Nat × Value × List UInt8) [3, 4, 66, 67] (fun ⟨j, av, cc⟩ => [(0, .c av), (68, .c (.int .i64 (j : Int)))]) (fun ⟨j, av, cc⟩ oo => List.set oo 1 (.arr av eU8 (bytesAV cc))) (fun ⟨j, av, cc⟩ => j ≤ is.length ∧ cc ++ V.encs (decide (k = 5)) (ks.drop j) (is.drop j) = l ++ (V.mk k b t ks is).enc) (fun ⟨j, av, cc⟩ => is.length - j) ⟨0, v64, l ++ [UInt8.ofNat (k + 1).toNat, UInt8.ofNat is.length]⟩ (⟨Nat.zero_le _, by rw [he]; simp⟩) (Wk.re (.cons rfl (.refl _) (.cons rfl (.refl _) (.cons rfl (.refl _) (.cons rfl (.refl _) (.cons rfl (.refl _) (.cons rfl (.refl _) .nil)))))) (Reown.ofEq (by show [Own.box b3 _, Own.arr v64 eU8 (bytesAV l ++ [[.c (.int .u8 (k + 1))], [.c (.int .u8 (is.length : Int))]])] = [Own.box b3 _, Own.arr v64 eU8 (bytesAV (l ++ [UInt8.ofNat (k + 1).toNat, UInt8.ofNat is.length]))]; rw [bytesAV_append, bytesAV_cons (by omega), bytesAV_one (by omega), show (((k + 1).toNat : Nat) : Int) = k + 1 by omega]; rfl)) (fun _ h => by first | exact h | simp [h])) ?_
            intro ⟨j, av, cc⟩ ⟨hj, hc⟩
            refine J.conv (by (try simp only [id_eq, stepsO, List.map_cons, List.map_nil, valO, nthO, curO, mrg, List.reverse_cons, List.reverse_nil, List.nil_append, List.cons_append, List.append_nil, List.getElem?_cons_zero, List.getElem?_cons_succ, Option.map_some, Option.getD_some, List.set_cons_zero, List.set_cons_succ, AV.cellsOf, splice_zero, splice_succ, Nat.zero_add, Nat.reduceAdd]); rfl) ?_
            refine J.seq ?_
            refine J.region_lit ?_
            refine JL.q rfl rfl rfl (QW.lss (.tmp rfl) (.tmp rfl)) ?_
            refine JL.nil ?_
            refine thenQ.n ?_
            refine J.seq ?_
            refine J.cond (.tmp rfl) (fun c5 => ?_) (fun c5 => ?_)
            · skip
              have hlt : j < is.length := by simpa [V.css_length] using c5
              refine J.skip ?_
              refine thenQ.n ?_
              refine J.seq ?_
              refine J.block ?_
              refine J.seq ?_
              refine J.region_lit ?_
              refine JL.q rfl rfl rfl (QW.move (.tmp rfl)) ?_
              refine JL.q rfl rfl rfl (QW.index_sl sl24 ty26 rfl (.tmp rfl) (.tmp rfl) (by first | rfl | omega | (simp; done)) (by first | exact V.css_getE _ hlt | exact keysAV_getE hltk)) ?_
              refine JL.q rfl rfl rfl (by first | exact QW.load_ref ty26 (.tmp rfl) rfl rfl | exact QW.load_ref ty26 (.tmp rfl) (take_at0 (V.cs_length _ _) rfl) (V.cs_length _ _)) ?_
              refine JL.alloc z26 rfl rfl fun b7 => ?_
              refine JL.q rfl rfl rfl (QW.assign (.tmp rfl)) ?_
              first | refine JL.store_boxF 0 ty26 (.tmp rfl) rfl (.tmp rfl) (by first | rfl | assumption) (rfl) (rfl) rfl ?_ | refine JL.store_boxF 0 ty26 (.tmp rfl) rfl (.tmp rfl) (by first | rfl | assumption) (rfl) (V.cs_length _ _) rfl ?_ | refine JL.store_boxF 0 ty26 (.tmp rfl) rfl (.tmp rfl) (by first | rfl | assumption) (V.cs_length _ _) (rfl) rfl ?_ | refine JL.store_boxF 0 ty26 (.tmp rfl) rfl (.tmp rfl) (by first | rfl | assumption) (V.cs_length _ _) (V.cs_length _ _) rfl ?_ | refine JL.store_box 0 ty26 (.tmp rfl) rfl (.tmp rfl) (by first | rfl | assumption) rfl rfl rfl rfl ?_ | refine JL.store_box 0 ty26 (.tmp rfl) rfl (.tmp rfl) (by first | rfl | assumption) (V.cs_length _ _) rfl rfl rfl ?_
              refine JL.nil ?_
              refine thenQ.n ?_
              refine J.cutK (ι := Value × List UInt8) [3, 4, 6, 7, 66, 67, 68, 69, 70, 71, 72] (fun ⟨av2, c2⟩ => [(0, .c av2)]) (fun ⟨av2, c2⟩ oo => List.set oo 2 (.arr av2 eU8 (bytesAV c2))) (fun ⟨av2, c2⟩ => c2 ++ (is[j].enc ++ V.encs (decide (k = 5)) (ks.drop (j + 1)) (is.drop (j + 1))) = l ++ (V.mk k b t ks is).enc) ?_ ?_
              · skip
                refine J.seq ?_
                refine J.region_lit ?_
                refine JL.q rfl rfl rfl (QW.field_ptr fo26_0 (.tmp rfl) rfl) ?_
                refine JL.q rfl rfl rfl (QW.load_box1 1 ty3 (.tmp rfl) rfl rfl) ?_
                refine JL.q rfl rfl rfl (QW.eql (.tmp rfl) .const) ?_
                refine JL.nil ?_
                refine thenQ.n ?_
                refine J.cond (.tmp rfl) (fun c6 => ?_) (fun c6 => ?_)
                · skip
                  have hk5 : k = 5 := by simpa using c6
                  obtain ⟨hkl1, hkl2⟩ := hkl hk5
                  have hltk : j < ks.length := by omega
                  have hk16j := hkl2 _ (List.getElem_mem hltk)
                  have hlen := congrArg List.length hc
                  rw [he, encs_drop hlt, if_pos (by simpa using hk5)] at hlen
                  simp only [List.length_append, List.length_cons, List.getD, List.getElem?_eq_getElem hltk, Option.getD_some] at hlen
                  refine J.region_outK 15 1 (fun os_ ow_ x_ o_ => match os_ with | [] => (∃ v_, x_ = .c v_ ∧ o_ = ow_.set 2 (.arr v_ eU8 (bytesAV cc ++ [[.c (.int .u8 ((ks[j]'hltk).length : Int))]]))) | _ => False) mixed (by kernel_rfl) (by kernel_rfl) (by kernel_rfl) rfl ?_
                  refine OutK.quiet [] rfl rfl rfl (fun qs_ qv_ ql_ => (.q rfl (QW.move (.tmp rfl)))) ?_
                  refine OutK.quiet [] rfl rfl rfl (fun qs_ qv_ ql_ => (.q rfl (QW.field_ptr fo26_3 (.tmp rfl) rfl))) ?_
                  refine OutK.quiet [77] rfl rfl rfl (fun qs_ qv_ ql_ => by
                      rcases qs_ with _ | ⟨⟨y0, p0⟩, qs_⟩
                      · skip
                        exact (.q rfl (QW.load_box1 1 ty23 (.tmp rfl) rfl rfl))
                      rcases qs_ with _ | ⟨⟨y1, p1⟩, qs_⟩
                      · skip
                        obtain ⟨hr0, _⟩ := qv_
                        obtain ⟨v85, rfl, rfl⟩ := hr0
                        exact (.q rfl (QW.load_box1 1 ty23 (.tmp rfl) rfl rfl))
                      exact absurd ql_ (by simp)) ?_
                  refine OutK.quiet [] rfl rfl rfl (fun qs_ qv_ ql_ => (.q rfl (QW.move (.tmp rfl)))) ?_
                  refine OutK.quiet [78, 79] rfl rfl rfl (fun qs_ qv_ ql_ => (.q rfl (QW.index_sl sl23 ty9 rfl (.tmp rfl) (.tmp rfl) (by first | rfl | omega | (simp; done)) (by first | exact V.css_getE _ hlt | exact keysAV_getE hltk)))) ?_
                  refine OutK.quiet [80] rfl rfl rfl (fun qs_ qv_ ql_ => (.q rfl (QW.load_ref1 ty9 (.tmp rfl) rfl))) ?_
                  refine OutK.quiet [81] rfl rfl rfl (fun qs_ qv_ ql_ => (.q rfl (QW.len_s st9 (.tmp rfl)))) ?_
                  refine OutK.quiet [82] rfl rfl rfl (fun qs_ qv_ ql_ => (.q rfl (QW.conv_int us3 iu5 (.tmp rfl) (by first | exact wu8 (by omega) | rfl)))) ?_
                  refine OutK.quiet [83] rfl rfl rfl (fun qs_ qv_ ql_ => (.q rfl (QW.buildSlice (idx := [0]) (xs := [[.c (.int .u8 ((ks[j]'hltk).length : Int))]]) sl121 el5 z5 rfl (.cons (.tmp rfl) .nil) rfl rfl rfl rfl rfl rfl rfl rfl rfl))) ?_
                  refine OutK.loud [76, 84] rfl rfl rfl rfl rfl (fun qs_ qv_ ql_ => by
                      obtain rfl : qs_ = [] := List.length_eq_zero_iff.1 ql_
                      exact LStepR.append 2 sl121 el5 rfl (.tmp rfl) rfl (srcA_sl sl121 (.tmp rfl)) (by simp only [List.length_append, List.length_cons, List.length_nil, bytesAV_length, List.length_take, be8_length] <;> (show _ * 1 ≤ _) <;> omega)) ?_
                  refine OutK.quiet [] rfl rfl rfl (fun qs_ qv_ ql_ => (.q rfl (QW.field_ptr fo26_3 (.tmp rfl) rfl))) ?_
                  refine OutK.quiet [86] rfl rfl rfl (fun qs_ qv_ ql_ => by
                      rcases qs_ with _ | ⟨⟨y0, p0⟩, qs_⟩
                      · skip
                        exact (.q rfl (QW.load_box1 1 ty23 (.tmp rfl) rfl rfl))
                      rcases qs_ with _ | ⟨⟨y1, p1⟩, qs_⟩
                      · skip
                        obtain ⟨hr0, _⟩ := qv_
                        obtain ⟨v85, rfl, rfl⟩ := hr0
                        exact (.q rfl (QW.load_box1 1 ty23 (.tmp rfl) rfl rfl))
                      exact absurd ql_ (by simp)) ?_
                  refine OutK.quiet [] rfl rfl rfl (fun qs_ qv_ ql_ => (.q rfl (QW.move (.tmp rfl)))) ?_
                  refine OutK.quiet [87, 88] rfl rfl rfl (fun qs_ qv_ ql_ => (.q rfl (QW.index_sl sl23 ty9 rfl (.tmp rfl) (.tmp rfl) (by first | rfl | omega | (simp; done)) (by first | exact V.css_getE _ hlt | exact keysAV_getE hltk)))) ?_
                  refine OutK.quiet [89] rfl rfl rfl (fun qs_ qv_ ql_ => (.q rfl (QW.load_ref1 ty9 (.tmp rfl) rfl))) ?_
                  refine .nil fun qs_ qv_ ql_ => ?_
                  obtain ⟨⟨y0, p0⟩, qs_, rfl⟩ : ∃ p t, qs_ = p :: t := by (cases qs_ with | nil => simp at ql_ | cons p t => exact ⟨p, t, rfl⟩)
                  obtain rfl : qs_ = [] := List.length_eq_zero_iff.1 (by simpa using ql_)
                  obtain ⟨hr0, _⟩ := qv_
                  obtain ⟨v85, rfl, rfl⟩ := hr0
                  refine JL.conv (by (try simp only [id_eq, stepsO, List.map_cons, List.map_nil, valO, nthO, curO, mrg, List.reverse_cons, List.reverse_nil, List.nil_append, List.cons_append, List.append_nil, List.getElem?_cons_zero, List.getElem?_cons_succ, Option.map_some, Option.getD_some, List.set_cons_zero, List.set_cons_succ, AV.cellsOf, splice_zero, splice_succ, Nat.zero_add, Nat.reduceAdd]); rfl) ?_
                  refine JL.append 2 sl121 el5 rfl (.tmp rfl) rfl (srcA_str st9 (.tmp rfl)) (by simp only [List.length_append, List.length_cons, List.length_nil, bytesAV_length, List.length_take, be8_length] <;> (show _ * 1 ≤ _) <;> omega) rfl fun v91 => ?_
                  refine JL.q rfl rfl rfl (QW.assign (.tmp rfl)) ?_
                  refine JL.nil ?_
                  refine thenQ.n ?_
                  exact ⟨⟨v91, cc ++ (UInt8.ofNat (ks[j]'hltk).length :: (ks[j]'hltk))⟩, by rw [← hc, encs_drop hlt, if_pos (by simpa using hk5)]; simp [List.getD, List.getElem?_eq_getElem hltk], Wk.re (.cons rfl (.refl _) (.cons rfl (.refl _) (.cons rfl (.refl _) (.cons rfl (.refl _) (.cons rfl (.refl _) (.cons rfl (.refl _) (.cons rfl (.refl _) (.cons rfl (.refl _) (.cons rfl (.refl _) (.cons rfl (.refl _) (.cons rfl (.refl _) (.cons rfl (.refl _) .nil)))))))))))) (Reown.ofEq (by show [Own.box b7 _, Own.box b3 _, Own.arr v91 eU8 (bytesAV cc ++ [[.c (.int .u8 ((ks[j].length : Nat) : Int))]] ++ bytesAV ks[j])] = [Own.box b7 _, Own.box b3 _, Own.arr v91 eU8 (bytesAV (cc ++ UInt8.ofNat (List.length ks[j]) :: ks[j]))]; rw [bytesAV_append, bytesAV_cons (by omega), List.append_assoc]; rfl)) (fun _ h => by first | exact h | simp [h])⟩
                · skip
                  have hk5 : k ≠ 5 := by simpa using c6
                  refine J.skip ?_
                  refine thenQ.n ?_
                  exact ⟨⟨av, cc⟩, by rw [← hc, encs_drop hlt, if_neg (by simpa using hk5)]; simp, Wk.re (.cons rfl (.refl _) (.cons rfl (.refl _) (.cons rfl (.refl _) (.cons rfl (.refl _) (.cons rfl (.refl _) (.cons rfl (.refl _) (.cons rfl (.refl _) (.cons rfl (.refl _) (.cons rfl (.refl _) (.cons rfl (.refl _) (.cons rfl (.refl _) (.cons rfl (.refl _) .nil)))))))))))) (Reown.refl _) (fun _ h => by first | exact h | simp [h])⟩
              · intro ⟨av2, c2⟩ hc2
                refine J.conv (by (try simp only [id_eq, stepsO, List.map_cons, List.map_nil, valO, nthO, curO, mrg, List.reverse_cons, List.reverse_nil, List.nil_append, List.cons_append, List.append_nil, List.getElem?_cons_zero, List.getElem?_cons_succ, Option.map_some, Option.getD_some, List.set_cons_zero, List.set_cons_succ, AV.cellsOf, splice_zero, splice_succ, Nat.zero_add, Nat.reduceAdd]); rfl) ?_
                refine J.region_lit ?_
                refine JL.q rfl rfl rfl (QW.move (.tmp rfl)) ?_
                refine JL.q rfl rfl rfl (by first | exact QW.load_box 0 ty26 (.tmp rfl) rfl rfl rfl | exact QW.load_box 0 ty26 (.tmp rfl) rfl (take_at (V.cs_length _ _) rfl) (V.cs_length _ _)) ?_
                refine JL.callRF [.k, .k, .p] gofn104 rfl Lent.nil (fun _ => (.cons (.tmp rfl) (.cons (.tmp rfl) .nil))) (ih (l := c2) Vc.self (hwi _ (List.getElem_mem hlt)) (hf.kid (List.getElem_mem hlt)) (by have := congrArg List.length hc2; rw [he] at this; simp only [List.length_append, List.length_cons] at this ⊢; omega) (V.sz_get hn hlt)) (.inl rfl) fun x94 o94 h94 => ?_
                obtain ⟨v94, rfl, rfl⟩ := h94
                refine JL.q rfl rfl rfl (QW.assign (.tmp rfl)) ?_
                refine JL.nil ?_
                refine blkQ.n ?_
                refine thenQ.n ?_
                refine J.region_lit ?_
                refine JL.q rfl rfl rfl (QW.add (.tmp rfl) .const (by first | exact w64n (by first | rfl | omega | (simp; done)) (by omega) | exact w64 (by omega) | rfl)) ?_
                refine JL.q rfl rfl rfl (QW.move (.tmp rfl)) ?_
                refine JL.nil ?_
                refine thenQ.n ?_
                exact ⟨⟨j + 1, v94, c2 ++ is[j].enc⟩, ⟨hlt, by rw [List.append_assoc]; exact hc2⟩, by show is.length - (j + 1) < is.length - j; omega, Wk.re (.cons rfl (.refl _) (.cons rfl (.refl _) (.cons rfl (.refl _) (.cons rfl (.refl _) (.cons rfl (.refl _) (.cons rfl (.refl _) .nil)))))) (Reown.dropN 1 _ rfl) (fun _ h => by first | exact h | simp [h])⟩
            · skip
              have hge : is.length ≤ j := by simpa [V.css_length] using c5
              refine J.exit ?_
              refine thenQ.x ?_
              refine thenQ.x ?_
              refine blkQ.hit ?_
              refine thenQ.n ?_
              refine J.seq ?_
              refine J.region_lit ?_
              refine JL.q rfl rfl rfl (QW.move (.tmp rfl)) ?_
              refine JL.q rfl rfl rfl (QW.assign (.tmp rfl)) ?_
              refine JL.nil ?_
              refine thenQ.n ?_
              refine J.ret ?_
              exact ⟨_, selP [.k, .p] _, _, RetEv.one rfl (REv.tmp rfl (.refl _)), rfl, sel_perm [.k, .p] _, ⟨_, rfl, _, rfl, congrArg (fun z => [Own.arr _ eU8 z]) (by rw [← hc, encs_end hge, List.append_nil])⟩⟩
theorem octets_ok {v : V} {ys : List AV} {fr : Bool} {l : List UInt8} {bv : Value} (hv : Vc fr v ys) (hw : v.wf) (hf : v.Fine) (hl : (l ++ v.enc).length ≤ reach) : AC Try.prog 104 [.arr bv eU8 (bytesAV l)] [.c bv, .agg ys] (RetR (OctR (l ++ v.enc))) := octets_n _ hv hw hf hl (Nat.le_refl _)
end Go.Proofs.Ytkiankpmkglhcaa.J

/- Walks: what is packed; PackOne. -/
namespace Go.Proofs.Ytkiankpmkglhcaa.J
open Go Go.RowKit
set_option linter.unusedVariables false
set_option linter.unusedSimpArgs false
set_option maxRecDepth 10000
set_option maxHeartbeats 4000000
def V.oct (v : V) : List UInt8 := if v.err ≠ 0 then [] else v.enc
def encAV (v : V) : AV := .tup [.sl true false eU8 (bytesAV v.oct), .c (.int .i64 v.err)]
theorem encAV_of {v : V} {l : List UInt8} {e : Int} (h : v.oct = l) (he : v.err = e) : encAV v = .tup [.sl true false eU8 (bytesAV l), .c (.int .i64 e)] := by rw [encAV, h, he]
def vP1 : V := .mk 1 1 [] [] []
def vP3 : V := .mk 3 0 [97] [] []
def vP : V := .mk 4 0 [] [] [vP1, vP3]
theorem vP1_wf : vP1.wf := .mk (by decide) (by decide) (by decide) (by decide) (by decide) (fun _ h => by cases h) (fun _ h => by cases h)
theorem vP3_wf : vP3.wf := .mk (by decide) (by decide) (by decide) (by decide) (by decide) (fun _ h => by cases h) (fun _ h => by cases h)
theorem vP_wf : vP.wf := .mk (by decide) (by decide) (by decide) (by decide) (by decide) (fun _ h => by cases h) (fun x h => by simp at h; rcases h with rfl | rfl; exact vP1_wf; exact vP3_wf)
theorem oenc : encAV vP = .tup [.sl true false eU8 (bytesAV [5, 2, 2, 4, 1, 97]), .c (.int .i64 0)] := encAV_of (by decide) (by decide)
theorem css_sz {fr : Bool} : ∀ (l : List V), ∀ y ∈ V.css fr l, y.length = eV.sz
  | [], y, h => by cases h
  | x :: r, y, h => by
    rcases List.mem_cons.1 h with rfl | h
    · exact V.cs_length fr x
    · exact css_sz r y h
theorem vP_le {F : List (Value × AV)} : LeL F [[.c (.int .i64 1), .c (.int .u64 1), .c (str []), .c (.slice none 0 0), .c (.slice none 0 0)], [.c (.int .i64 3), .c (.int .u64 0), .c (str [97]), .c (.slice none 0 0), .c (.slice none 0 0)]].flatten (V.css true [vP1, vP3]).flatten :=
  .cons (.refl _) (.cons (.refl _) (.cons (.refl _) (.cons (.nil true false _) (.cons (.nil true false _) (.cons (.refl _) (.cons (.refl _) (.cons (.refl _) (.cons (.nil true false _) (.cons (.nil true false _) .nil)))))))))
theorem V.oct_no {v : V} (h : v.err ≠ 0) : v.oct = [] := if_pos h
theorem V.oct_ok {v : V} (h : v.err = 0) : v.oct = v.enc := if_neg (by simp [h])
theorem encode_ok {fr : Bool} {v : V} {ys : List AV} (hv : Vc fr v ys) (hw : v.wf) : Fn Try.prog 69 [.agg ys] (encAV v) := by
  subst hv
  refine AC.of_J Try.func69 rfl Try.ntmps69 rfl fun w0 A0 => ?_
  refine J.seq ?_
  refine J.region_lit ?_
  refine JL.box_agg (.tmp rfl) rfl fun b1 => ?_
  refine JL.q rfl rfl rfl (QW.assign .const) ?_
  refine JL.q rfl rfl rfl (QW.assign .const) ?_
  refine JL.nil ?_
  refine thenQ.n ?_
  refine J.seq ?_
  refine J.seq ?_
  refine J.region_lit ?_
  refine JL.q rfl rfl rfl (by first | exact QW.load_box 0 ty26 (.tmp rfl) rfl rfl rfl | exact QW.load_box 0 ty26 (.tmp rfl) rfl (take_at (V.cs_length _ _) rfl) (V.cs_length _ _)) ?_
  refine JL.q rfl rfl rfl (QW.call gofn24 (.cons (.tmp rfl) .nil) (check_ok Vc.self hw)) ?_
  refine JL.q rfl rfl rfl (QW.assign (.tmp rfl)) ?_
  refine JL.nil ?_
  refine thenQ.n ?_
  refine J.seq ?_
  refine J.region_lit ?_
  refine JL.q rfl rfl rfl (QW.move (.tmp rfl)) ?_
  refine JL.q rfl rfl rfl (QW.neq (.tmp rfl) .const) ?_
  refine JL.nil ?_
  refine thenQ.n ?_
  refine J.cond (.tmp rfl) (fun c1 => ?_) (fun c1 => ?_)
  · skip
    simp at c1
    refine J.seq ?_
    refine J.region_lit ?_
    refine JL.q rfl rfl rfl (QW.move (.tmp rfl)) ?_
    refine JL.q rfl rfl rfl (QW.assign .const) ?_
    refine JL.q rfl rfl rfl (QW.assign (.tmp rfl)) ?_
    refine JL.nil ?_
    refine thenQ.n ?_
    refine J.ret ?_
    refine thenQ.r ?_
    exact ⟨_, selP [.k] _, _, RetEv.two rfl (REv.tmp rfl (.nil true false _)) (REv.tmp rfl (.refl _)), rfl, sel_perm [.k] _, ⟨congrArg Res.ret (encAV_of (V.oct_no c1) rfl).symm, rfl⟩⟩
  · skip
    simp at c1
    have hel := V.enc_len c1
    refine J.skip ?_
    refine thenQ.n ?_
    refine J.seq ?_
    refine J.reown (Reown.nilArrE eU8 _) ?_
    refine J.region_lit ?_
    refine JL.q rfl rfl rfl (by first | exact QW.load_box 0 ty26 (.tmp rfl) rfl rfl rfl | exact QW.load_box 0 ty26 (.tmp rfl) rfl (take_at (V.cs_length _ _) rfl) (V.cs_length _ _)) ?_
    refine JL.callRF [.k, .p] gofn104 rfl Lent.nil (fun _ => (.cons .const (.cons (.tmp rfl) .nil))) (octets_ok (l := []) (bv := .slice none 0 0) Vc.self hw (V.fine_of c1) (by show v.enc.length ≤ _; unfold reach; omega)) (.inl rfl) fun x11 o11 h11 => ?_
    obtain ⟨v11, rfl, rfl⟩ := h11
    refine JL.q rfl rfl rfl (QW.assign (.tmp rfl)) ?_
    refine JL.closeArr 1 rfl (by rw [bytesAV_length]; show v.enc.length * 1 ≤ _; unfold reach; omega) rfl (fun _ h => by cases h) ?_
    refine JL.q rfl rfl rfl (QW.assign .const) ?_
    refine JL.nil ?_
    refine thenQ.n ?_
    refine J.ret ?_
    exact ⟨_, selP [.k] _, _, RetEv.two rfl (REv.tmp rfl (.fact (.head _) (.refl _))) (REv.tmp rfl (.refl _)), rfl, sel_perm [.k] _, ⟨congrArg Res.ret (encAV_of (V.oct_ok c1) c1).symm, rfl⟩⟩
theorem num03_ok (n : Int) : Fn Try.prog 70 [.c (.int .i64 n)] (.c (.int .i64 n)) := by
  refine AC.of_J Try.func70 rfl Try.ntmps70 rfl fun w0 A0 => ?_
  refine J.seq ?_
  refine J.region_lit ?_
  refine JL.q rfl rfl rfl (QW.assign .const) ?_
  refine JL.nil ?_
  refine thenQ.n ?_
  refine J.seq ?_
  refine J.region_lit ?_
  refine JL.q rfl rfl rfl (QW.move (.tmp rfl)) ?_
  refine JL.q rfl rfl rfl (QW.assign (.tmp rfl)) ?_
  refine JL.nil ?_
  refine thenQ.n ?_
  refine J.ret ?_
  exact ⟨_, selP [] _, _, RetEv.one rfl (REv.tmp rfl (.refl _)), rfl, sel_perm [] _, ⟨rfl, rfl⟩⟩
theorem alive03_ok : Fn Try.prog 68 [] (.c (.bool true)) := by
  refine AC.of_J Try.func68 rfl Try.ntmps68 rfl fun w0 A0 => ?_
  refine J.seq ?_
  refine J.region_lit ?_
  refine JL.q rfl rfl rfl (QW.assign .const) ?_
  refine JL.nil ?_
  refine thenQ.n ?_
  refine J.seq ?_
  refine J.region_lit ?_
  refine JL.q rfl rfl rfl (QW.build (idx := [0, 1]) pl26 z26 rfl (.cons .const (.cons .const .nil)) rfl rfl rfl rfl) ?_
  refine JL.q rfl rfl rfl (QW.build (idx := [0, 2]) pl26 z26 rfl (.cons .const (.cons .const .nil)) rfl rfl rfl rfl) ?_
  refine JL.q rfl rfl rfl (QW.buildSlice (idx := [0, 1]) (xs := [[.c (.int .i64 1), .c (.int .u64 1), .c (str []), .c (.slice none 0 0), .c (.slice none 0 0)], [.c (.int .i64 3), .c (.int .u64 0), .c (str [97]), .c (.slice none 0 0), .c (.slice none 0 0)]]) sl24 el26 z26 rfl (.cons (.tmp rfl) (.cons (.tmp rfl) .nil)) rfl rfl rfl rfl rfl rfl rfl rfl rfl) ?_
  refine JL.q rfl rfl rfl (QW.build (idx := [0, 4]) pl26 z26 rfl (.cons .const (.cons (.tmp rfl) .nil)) rfl rfl rfl rfl) ?_
  refine JL.q rfl rfl rfl (QW.call gofn69 (.cons (Ev.le (.tmp rfl) (.aggL (.cons (.refl _) (.cons (.refl _) (.cons (.refl _) (.cons (.nil true false _) (.cons (.slL (fun h => h) (by rfl) (css_sz _) vP_le) .nil))))))) .nil) (oenc ▸ encode_ok (fr := true) (v := vP) Vc.self vP_wf)) ?_
  refine JL.q rfl rfl rfl (QW.move (.tmp rfl)) ?_
  refine JL.q rfl rfl rfl (QW.extract (.tmp rfl) rfl) ?_
  refine JL.q rfl rfl rfl (QW.extract (.tmp rfl) rfl) ?_
  refine JL.q rfl rfl rfl (QW.assign (.tmp rfl)) ?_
  refine JL.q rfl rfl rfl (QW.assign (.tmp rfl)) ?_
  refine JL.nil ?_
  refine thenQ.n ?_
  refine J.seq ?_
  refine J.region_lit ?_
  refine JL.q rfl rfl rfl (QW.move (.tmp rfl)) ?_
  refine JL.q rfl rfl rfl (QW.call gofn70 (.cons (.tmp rfl) .nil) (num03_ok _)) ?_
  refine JL.q rfl rfl rfl (QW.eql (.tmp rfl) .const) ?_
  refine JL.q rfl rfl rfl (QW.move (.tmp rfl)) ?_
  refine JL.g rfl rfl rfl rfl rfl (fun hg => (QW.move (.tmp rfl))) ?_
  refine JL.g rfl rfl rfl rfl rfl (fun hg => (QW.bytes_str sl121 st9 iu5 (.when rfl hg))) ?_
  refine JL.g rfl rfl rfl rfl rfl (fun hg => (QW.eql_s (.when rfl hg) .const)) ?_
  refine JL.q rfl rfl rfl (QW.pick_and (.tmp rfl) (.tmp rfl)) ?_
  refine JL.q rfl rfl rfl (QW.assign (.tmp rfl)) ?_
  refine JL.nil ?_
  refine thenQ.n ?_
  refine J.ret ?_
  exact ⟨_, selP [] _, _, RetEv.one rfl (REv.tmp rfl (.refl _)), rfl, sel_perm [] _, ⟨rfl, rfl⟩⟩
theorem packOne_ok {a b : V} (hw : a.wf) (hv : b.wf) : Fn Try.prog 19 [.agg (a.cs false), .agg (b.cs false)] (.c (.bool true)) := by
  refine AC.of_J Try.func19 rfl Try.ntmps19 rfl fun w0 A0 => ?_
  refine J.seq ?_
  refine J.region_lit ?_
  refine JL.box_agg (.tmp rfl) rfl fun b2 => ?_
  refine JL.box_agg (.tmp rfl) rfl fun b3 => ?_
  refine JL.q rfl rfl rfl (QW.assign .const) ?_
  refine JL.nil ?_
  refine thenQ.n ?_
  refine J.seq ?_
  refine J.seq ?_
  refine J.region_lit ?_
  refine JL.q rfl rfl rfl (QW.call gofn68 .nil (alive03_ok)) ?_
  refine JL.q rfl rfl rfl (QW.not (.tmp rfl)) ?_
  refine JL.nil ?_
  refine thenQ.n ?_
  refine J.cond (.tmp rfl) (fun c1 => ?_) (fun c1 => ?_)
  · skip
    exact absurd c1 (by simp)
    --closed
  · skip
    skip
    refine J.skip ?_
    refine thenQ.n ?_
    refine J.seq ?_
    refine J.region_lit ?_
    refine JL.q rfl rfl rfl (by first | exact QW.load_box 1 ty26 (.tmp rfl) rfl rfl rfl | exact QW.load_box 1 ty26 (.tmp rfl) rfl (take_at (V.cs_length _ _) rfl) (V.cs_length _ _)) ?_
    refine JL.q rfl rfl rfl (QW.call gofn69 (.cons (.tmp rfl) .nil) (encode_ok Vc.self hw)) ?_
    refine JL.q rfl rfl rfl (QW.move (.tmp rfl)) ?_
    refine JL.q rfl rfl rfl (QW.extract (.tmp rfl) rfl) ?_
    refine JL.q rfl rfl rfl (QW.extract (.tmp rfl) rfl) ?_
    refine JL.q rfl rfl rfl (QW.assign (.tmp rfl)) ?_
    refine JL.q rfl rfl rfl (QW.assign (.tmp rfl)) ?_
    refine JL.nil ?_
    refine thenQ.n ?_
    refine J.seq ?_
    refine J.region_lit ?_
    refine JL.q rfl rfl rfl (by first | exact QW.load_box 0 ty26 (.tmp rfl) rfl rfl rfl | exact QW.load_box 0 ty26 (.tmp rfl) rfl (take_at (V.cs_length _ _) rfl) (V.cs_length _ _)) ?_
    refine JL.q rfl rfl rfl (QW.call gofn69 (.cons (.tmp rfl) .nil) (encode_ok Vc.self hv)) ?_
    refine JL.q rfl rfl rfl (QW.move (.tmp rfl)) ?_
    refine JL.q rfl rfl rfl (QW.extract (.tmp rfl) rfl) ?_
    refine JL.q rfl rfl rfl (QW.extract (.tmp rfl) rfl) ?_
    refine JL.q rfl rfl rfl (QW.assign (.tmp rfl)) ?_
    refine JL.q rfl rfl rfl (QW.assign (.tmp rfl)) ?_
    refine JL.nil ?_
    refine thenQ.n ?_
    refine J.seq ?_
    refine J.seq ?_
    refine J.region_lit ?_
    refine JL.q rfl rfl rfl (QW.move (.tmp rfl)) ?_
    refine JL.q rfl rfl rfl (QW.call gofn70 (.cons (.tmp rfl) .nil) (num03_ok _)) ?_
    refine JL.q rfl rfl rfl (QW.neq (.tmp rfl) .const) ?_
    refine JL.q rfl rfl rfl (QW.move (.tmp rfl)) ?_
    refine JL.g rfl rfl rfl rfl rfl (fun hg => (QW.move (.tmp rfl))) ?_
    refine JL.g rfl rfl rfl rfl rfl (fun hg => (QW.call gofn70 (.cons (.when rfl hg) .nil) (num03_ok _))) ?_
    refine JL.g rfl rfl rfl rfl rfl (fun hg => (QW.neq (.when rfl hg) .const)) ?_
    refine JL.q rfl rfl rfl (QW.pick_or (.tmp rfl) (.tmp rfl)) ?_
    refine JL.nil ?_
    refine thenQ.n ?_
    refine J.cond (.tmp rfl) (fun c2 => ?_) (fun c2 => ?_)
    · skip
      have hbad : a.err ≠ 0 ∨ b.err ≠ 0 := by simpa using c2
      refine J.seq ?_
      refine J.region_lit ?_
      refine JL.q rfl rfl rfl (QW.move (.tmp rfl)) ?_
      refine JL.q rfl rfl rfl (by first | exact QW.len_slE sl121 (.tmp rfl) (keysAV_length _) | exact QW.len_slE sl121 (.tmp rfl) (V.css_length _ _) | exact QW.len_slE sl121 (.tmp rfl) (bytesAV_length _) | exact QW.len_sl sl121 (.tmp rfl) | exact QW.len_nil sl121 (.tmp rfl)) ?_
      refine JL.q rfl rfl rfl (QW.eql (.tmp rfl) .const) ?_
      refine JL.q rfl rfl rfl (QW.move (.tmp rfl)) ?_
      refine JL.g rfl rfl rfl rfl rfl (fun hg => (QW.move (.tmp rfl))) ?_
      refine JL.g rfl rfl rfl rfl rfl (fun hg => (by first | exact QW.len_slE sl121 (.when rfl hg) (keysAV_length _) | exact QW.len_slE sl121 (.when rfl hg) (V.css_length _ _) | exact QW.len_slE sl121 (.when rfl hg) (bytesAV_length _) | exact QW.len_sl sl121 (.when rfl hg) | exact QW.len_nil sl121 (.when rfl hg))) ?_
      refine JL.g rfl rfl rfl rfl rfl (fun hg => (QW.eql (.when rfl hg) .const)) ?_
      refine JL.q rfl rfl rfl (QW.pick_or (.tmp rfl) (.tmp rfl)) ?_
      refine JL.q rfl rfl rfl (QW.assign (.tmp rfl)) ?_
      refine JL.nil ?_
      refine thenQ.n ?_
      refine J.ret ?_
      refine thenQ.r ?_
      exact ⟨_, selP [.k, .k] _, _, RetEv.one rfl (REv.tmp rfl (.refl _)), rfl, sel_perm [.k, .k] _, ⟨ret_b (by rcases hbad with h | h <;> simp [V.oct_no h, bytesAV_length]), rfl⟩⟩
    · skip
      have hok : a.err = 0 ∧ b.err = 0 := by simpa using c2
      refine J.skip ?_
      refine thenQ.n ?_
      refine J.seq ?_
      refine J.regionX mixed ?_
      refine JX.f 0 [] rfl rfl rfl rfl rfl rfl rfl rfl (fun ow_ => (.q rfl (QW.move (.tmp rfl)))) ?_
      refine JX.f 1 [] rfl rfl rfl rfl rfl rfl rfl rfl (fun ow_ => (.q rfl (QW.move (.tmp rfl)))) ?_
      refine JX.f 2 [37, 38] rfl rfl rfl rfl rfl rfl rfl rfl (fun ow_ => (.q rfl (QW.call gofn71 (.cons (.tmp rfl) (.cons (.tmp rfl) .nil)) (sameBytes_ok _ _)))) ?_
      refine JX.o 3 1 [] rfl rfl rfl rfl rfl rfl rfl rfl rfl (fun ow_ ho_ => (.q rfl (by first | exact QW.load_box 1 ty26 (.tmp rfl) ho_ rfl rfl | exact QW.load_box 1 ty26 (.tmp rfl) ho_ (take_at (V.cs_length _ _) rfl) (V.cs_length _ _)))) ?_
      refine JX.o 4 0 [] rfl rfl rfl rfl rfl rfl rfl rfl rfl (fun ow_ ho_ => (.q rfl (by first | exact QW.load_box 0 ty26 (.tmp rfl) ho_ rfl rfl | exact QW.load_box 0 ty26 (.tmp rfl) ho_ (take_at (V.cs_length _ _) rfl) (V.cs_length _ _)))) ?_
      refine JX.f 5 [40, 41] rfl rfl rfl rfl rfl rfl rfl rfl (fun ow_ => (.q rfl (QW.call gofn26 (.cons (.tmp rfl) (.cons (.tmp rfl) .nil)) (sameValue_ok Vc.self Vc.self hw hv)))) ?_
      refine JX.f 6 [39, 42] rfl rfl rfl rfl rfl rfl rfl rfl (fun ow_ => (.q rfl (QW.eql_b bo4 (.tmp rfl) (.tmp rfl)))) ?_
      refine JX.f 7 [43] rfl rfl rfl rfl rfl rfl rfl rfl (fun ow_ => (.q rfl (QW.assign (.tmp rfl)))) ?_
      refine JX.fin (by kernel_rfl) (by kernel_rfl) fun bs_ => ?_
      refine QX.conv (by (try simp only [vlF, bxF, tkM, lvM, Flt.val, Flt.bx, List.append_assoc, List.take_succ_cons, List.take_zero, List.append_eq, id_eq, stepsO, List.map_cons, List.map_nil, valO, nthO, curO, mrg, List.reverse_cons, List.reverse_nil, List.nil_append, List.cons_append, List.append_nil, List.getElem?_cons_zero, List.getElem?_cons_succ, Option.map_some, Option.getD_some, List.set_cons_zero, List.set_cons_succ, AV.cellsOf, splice_zero, splice_succ, Nat.zero_add, Nat.reduceAdd]); rfl) ?_
      refine thenQ.n ?_
      refine J.ret ?_
      exact ⟨_, selP [.k, .k] _, _, RetEv.one rfl (REv.tmp rfl (.refl _)), rfl, sel_perm [.k, .k] _, ⟨ret_b (by rw [V.oct_ok hok.1, V.oct_ok hok.2, V.enc_eq hok.1 hok.2 hw hv]; simp), rfl⟩⟩
end Go.Proofs.Ytkiankpmkglhcaa.J

