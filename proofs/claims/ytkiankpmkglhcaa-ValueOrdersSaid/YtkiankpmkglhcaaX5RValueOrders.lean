/- Texts of this proof, laid together. -/
import Derived.Test.YtkiankpmkglhcaaX4RValueOrders
/- Walks: the page's order of values. -/
namespace Go.Proofs.Ytkiankpmkglhcaa.J
open Go Go.RowKit
set_option linter.unusedVariables false
set_option linter.unusedSimpArgs false
set_option maxRecDepth 10000
set_option maxHeartbeats 4000000
theorem orI_r (a : Int) : orI a 0 = a := by unfold orI; split <;> omega
theorem cmpI_self (a : Int) : cmpI a a = 0 := cmpI_zero.2 rfl
theorem cmpS_self (a : Str) : cmpS a a = 0 := cmpS_zero.2 rfl
def numI (a b : Bool) : Int := if a = true then -1 else if b = true then 0 else 1
theorem numI_int (x y : Int) : numI (decide (x < y)) (x == y) = cmpI x y := by
  unfold numI cmpI
  by_cases h : x < y
  · simp [h]
  · by_cases h2 : x = y
    · simp [h2]
    · simp [h, h2]; omega
theorem numI_ne {x y : Int} (h : x ≠ y) : numI (decide (x < y)) false = cmpI x y := by
  rw [← numI_int]; congr 1; simp [h]
theorem numI_str (x y : Str) : numI (Op.bytesLess x y) (x == y) = cmpS x y := by
  unfold numI cmpS
  rcases less_tri x y with k | k | k
  · simp [k]
  · subst k; simp [less_irr]
  · have : x ≠ y := fun h => by subst h; rw [less_irr] at k; cases k
    simp [k, less_asym k, this]
theorem numI_sne {x y : Str} (h : x ≠ y) : numI (Op.bytesLess x y) false = cmpS x y := by
  rw [← numI_str]; congr 1; simp [h]
section
variable {k : Int} {b b' : Nat} {t t' : Str} {ks ks' : List Str} {is is' : List V}
theorem ord_num (hp : partOk (.mk k b t ks is) = true) (hq : partOk (.mk k b' t' ks' is') = true) (h : k = 1 ∨ k = 2) : V.ord (.mk k b t ks is) (.mk k b' t' ks' is') = cmpI (V.numb k b) (V.numb k b') := by
  have hb : ∀ {b t ks is}, partOk (.mk k b t ks is) = true → t = [] ∧ ks = [] ∧ is = [] := by
    intro b t ks is g
    rcases h with rfl | rfl <;> simp [partOk] at g <;> exact ⟨g.1.1.2, g.1.2, g.2⟩
  obtain ⟨rfl, rfl, rfl⟩ := hb hp
  obtain ⟨rfl, rfl, rfl⟩ := hb hq
  simp only [V.ord, cmpI_self, cmpS_self, cmpK, V.ords, orI_z, orI_r]
theorem ord_text (hp : partOk (.mk 3 b t ks is) = true) (hq : partOk (.mk 3 b' t' ks' is') = true) : V.ord (.mk 3 b t ks is) (.mk 3 b' t' ks' is') = cmpS t t' := by
  simp [partOk] at hp hq
  obtain ⟨⟨⟨rfl, -⟩, rfl⟩, rfl⟩ := hp
  obtain ⟨⟨⟨rfl, -⟩, rfl⟩, rfl⟩ := hq
  simp only [V.ord, cmpI_self, cmpK, V.ords, orI_z, orI_r]
theorem ord_list (hp : partOk (.mk k b t ks is) = true) (hq : partOk (.mk k b' t' ks' is') = true) (h1 : k ≠ 1) (h2 : k ≠ 2) (h3 : k ≠ 3) : V.ord (.mk k b t ks is) (.mk k b' t' ks' is') = orI (cmpK ks ks') (V.ords is is') := by
  have hb : ∀ {b t ks is}, partOk (.mk k b t ks is) = true → b = 0 ∧ t = [] := by
    intro b t ks is h
    simp only [partOk, if_neg h1, if_neg h2, if_neg h3] at h
    (repeat' split at h) <;> simp at h <;> simp [h]
  obtain ⟨rfl, rfl⟩ := hb hp
  obtain ⟨rfl, rfl⟩ := hb hq
  simp only [V.ord, cmpI_self, cmpS_self, orI_z]
end
theorem number02_ok (a b : Bool) : Fn Try.prog 120 [.c (.bool a), .c (.bool b)] (.c (.int .i64 (numI a b))) := by
  refine AC.of_J Try.func120 rfl Try.ntmps120 rfl fun w0 A0 => ?_
  refine J.seq ?_
  refine J.region_lit ?_
  refine JL.q rfl rfl rfl (QW.assign .const) ?_
  refine JL.nil ?_
  refine thenQ.n ?_
  refine J.seq ?_
  refine J.block ?_
  refine J.seq ?_
  refine J.region_lit ?_
  refine JL.q rfl rfl rfl (QW.move (.tmp rfl)) ?_
  refine JL.q rfl rfl rfl (QW.assign (.tmp rfl)) ?_
  refine JL.nil ?_
  refine thenQ.n ?_
  refine J.cond (.tmp rfl) (fun c1 => ?_) (fun c1 => ?_)
  · skip
    skip
    refine J.seq ?_
    refine J.region_lit ?_
    refine JL.q rfl rfl rfl (QW.assign .const) ?_
    refine JL.nil ?_
    refine thenQ.n ?_
    refine J.ret ?_
    refine blkQ.r ?_
    refine thenQ.r ?_
    exact ⟨_, selP [] _, _, RetEv.one rfl (REv.tmp rfl (.refl _)), rfl, sel_perm [] _, ⟨by simp [numI, *], rfl⟩⟩
  · skip
    skip
    refine J.seq ?_
    refine J.region_lit ?_
    refine JL.q rfl rfl rfl (QW.move (.tmp rfl)) ?_
    refine JL.q rfl rfl rfl (QW.assign (.tmp rfl)) ?_
    refine JL.nil ?_
    refine thenQ.n ?_
    refine J.cond (.tmp rfl) (fun c2 => ?_) (fun c2 => ?_)
    · skip
      refine J.seq ?_
      refine J.region_lit ?_
      refine JL.q rfl rfl rfl (QW.assign .const) ?_
      refine JL.nil ?_
      refine thenQ.n ?_
      refine J.ret ?_
      refine blkQ.r ?_
      refine thenQ.r ?_
      exact ⟨_, selP [] _, _, RetEv.one rfl (REv.tmp rfl (.refl _)), rfl, sel_perm [] _, ⟨by simp [numI, *], rfl⟩⟩
    · skip
      refine J.skip ?_
      refine blkQ.n ?_
      refine thenQ.n ?_
      refine J.seq ?_
      refine J.region_lit ?_
      refine JL.q rfl rfl rfl (QW.assign .const) ?_
      refine JL.nil ?_
      refine thenQ.n ?_
      refine J.ret ?_
      exact ⟨_, selP [] _, _, RetEv.one rfl (REv.tmp rfl (.refl _)), rfl, sel_perm [] _, ⟨by simp [numI, *], rfl⟩⟩
theorem rvorder_n  : ∀ (n : Nat) {v u : V} {ys zs : List AV} {fr fr2 : Bool}, Vc fr v ys → Vc fr2 u zs → v.wf → u.wf → v.Fine → u.Fine → v.sz ≤ n →
    Fn Try.prog 83 [.agg ys, .agg zs] (.c (.int .i64 (v.ord u))) := by
  intro n
  induction n with
  | zero => intro v u ys zs fr fr2 hv hu hw hw2 hf hg h; exact absurd h (by have := V.sz_pos v; omega)
  | succ n ih =>
    intro v u ys zs fr fr2 hv hu hw hw2 hf hg hn
    obtain ⟨k, b, t, ks, is⟩ := v
    obtain ⟨k', b', t', ks', is'⟩ := u
    subst hv hu
    obtain ⟨-, hb, -, hk16, hi80, -, hwi⟩ := hw.inv
    obtain ⟨-, hb2, -, hk16', hi80', -, hwi'⟩ := hw2.inv
    have h1 : is.length ≤ 8796093022208 := by unfold reach at hi80; omega
    have h2 : is'.length ≤ 8796093022208 := by unfold reach at hi80'; omega
    have h3 : ks.length ≤ 8796093022208 := by unfold reach at hk16; omega
    have h4 : ks'.length ≤ 8796093022208 := by unfold reach at hk16'; omega
    refine AC.of_J Try.func83 rfl Try.ntmps83 rfl fun w0 A0 => ?_
    refine J.seq ?_
    refine J.region_lit ?_
    refine JL.box_agg (.tmp rfl) rfl fun b2 => ?_
    refine JL.box_agg (.tmp rfl) rfl fun b3 => ?_
    refine JL.q rfl rfl rfl (QW.assign .const) ?_
    refine JL.nil ?_
    refine thenQ.n ?_
    refine J.seq ?_
    refine J.seq ?_
    refine J.region_lit ?_
    refine JL.q rfl rfl rfl (QW.field_ptr fo26_0 (.tmp rfl) rfl) ?_
    refine JL.q rfl rfl rfl (QW.load_box1 1 ty3 (.tmp rfl) rfl rfl) ?_
    refine JL.q rfl rfl rfl (QW.field_ptr fo26_0 (.tmp rfl) rfl) ?_
    refine JL.q rfl rfl rfl (QW.load_box1 0 ty3 (.tmp rfl) rfl rfl) ?_
    refine JL.q rfl rfl rfl (QW.neq (.tmp rfl) (.tmp rfl)) ?_
    refine JL.nil ?_
    refine thenQ.n ?_
    refine J.cond (.tmp rfl) (fun c1 => ?_) (fun c1 => ?_)
    · skip
      have hz : k ≠ k' := by simpa using c1
      refine J.seq ?_
      refine J.region_lit ?_
      refine JL.q rfl rfl rfl (QW.field_ptr fo26_0 (.tmp rfl) rfl) ?_
      refine JL.q rfl rfl rfl (QW.load_box1 1 ty3 (.tmp rfl) rfl rfl) ?_
      refine JL.q rfl rfl rfl (QW.field_ptr fo26_0 (.tmp rfl) rfl) ?_
      refine JL.q rfl rfl rfl (QW.load_box1 0 ty3 (.tmp rfl) rfl rfl) ?_
      refine JL.q rfl rfl rfl (QW.lss (.tmp rfl) (.tmp rfl)) ?_
      refine JL.q rfl rfl rfl (QW.call gofn120 (.cons (.tmp rfl) (.cons .const .nil)) (number02_ok _ _)) ?_
      refine JL.q rfl rfl rfl (QW.assign (.tmp rfl)) ?_
      refine JL.nil ?_
      refine thenQ.n ?_
      refine J.ret ?_
      refine thenQ.r ?_
      exact ⟨_, selP [.k, .k] _, _, RetEv.one rfl (REv.tmp rfl (.refl _)), rfl, sel_perm [.k, .k] _, ⟨by simp only [V.ord]; rw [numI_ne hz, orI_n (fun h => hz (cmpI_zero.1 h))], rfl⟩⟩
    · skip
      obtain rfl : k = k' := by simpa using c1
      have hp := hf.part
      have hq := hg.part
      refine J.skip ?_
      refine thenQ.n ?_
      refine J.seq ?_
      refine J.seq ?_
      refine J.region_lit ?_
      refine JL.q rfl rfl rfl (QW.field_ptr fo26_0 (.tmp rfl) rfl) ?_
      refine JL.q rfl rfl rfl (QW.load_box1 1 ty3 (.tmp rfl) rfl rfl) ?_
      refine JL.nil ?_
      refine thenQ.n ?_
      refine J.block ?_
      refine J.seq ?_
      refine J.region_lit ?_
      refine JL.q rfl rfl rfl (QW.eql (.tmp rfl) .const) ?_
      refine JL.q rfl rfl rfl (QW.assign (.tmp rfl)) ?_
      refine JL.nil ?_
      refine thenQ.n ?_
      refine J.cond (.tmp rfl) (fun c2 => ?_) (fun c2 => ?_)
      · skip
        obtain rfl : k = 1 := by simpa using c2
        refine J.seq ?_
        refine J.region_lit ?_
        refine JL.q rfl rfl rfl (QW.field_ptr fo26_1 (.tmp rfl) rfl) ?_
        refine JL.q rfl rfl rfl (QW.load_box1 1 ty22 (.tmp rfl) rfl rfl) ?_
        refine JL.q rfl rfl rfl (QW.field_ptr fo26_1 (.tmp rfl) rfl) ?_
        refine JL.q rfl rfl rfl (QW.load_box1 0 ty22 (.tmp rfl) rfl rfl) ?_
        refine JL.q rfl rfl rfl (QW.lss (.tmp rfl) (.tmp rfl)) ?_
        refine JL.q rfl rfl rfl (QW.field_ptr fo26_1 (.tmp rfl) rfl) ?_
        refine JL.q rfl rfl rfl (QW.load_box1 1 ty22 (.tmp rfl) rfl rfl) ?_
        refine JL.q rfl rfl rfl (QW.field_ptr fo26_1 (.tmp rfl) rfl) ?_
        refine JL.q rfl rfl rfl (QW.load_box1 0 ty22 (.tmp rfl) rfl rfl) ?_
        refine JL.q rfl rfl rfl (QW.eql (.tmp rfl) (.tmp rfl)) ?_
        refine JL.q rfl rfl rfl (QW.call gofn120 (.cons (.tmp rfl) (.cons (.tmp rfl) .nil)) (number02_ok _ _)) ?_
        refine JL.q rfl rfl rfl (QW.assign (.tmp rfl)) ?_
        refine JL.nil ?_
        refine thenQ.n ?_
        refine J.ret ?_
        refine blkQ.r ?_
        refine thenQ.r ?_
        exact ⟨_, selP [.k, .k] _, _, RetEv.one rfl (REv.tmp rfl (.refl _)), rfl, sel_perm [.k, .k] _, ⟨by rw [ord_num hp hq (.inl rfl), numI_int]; rfl, rfl⟩⟩
      · skip
        have hn1 : k ≠ 1 := by simpa using c2
        refine J.seq ?_
        refine J.region_lit ?_
        refine JL.q rfl rfl rfl (QW.eql (.tmp rfl) .const) ?_
        refine JL.q rfl rfl rfl (QW.assign (.tmp rfl)) ?_
        refine JL.nil ?_
        refine thenQ.n ?_
        refine J.cond (.tmp rfl) (fun c3 => ?_) (fun c3 => ?_)
        · skip
          obtain rfl : k = 2 := by simpa using c3
          refine J.seq ?_
          refine J.regionX mixed ?_
          refine JX.f 0 [] rfl rfl rfl rfl rfl rfl rfl rfl (fun ow_ => (.q rfl (QW.field_ptr fo26_1 (.tmp rfl) rfl))) ?_
          refine JX.o 1 1 [38] rfl rfl rfl rfl rfl rfl rfl rfl rfl (fun ow_ ho_ => (.q rfl (QW.load_box1 1 ty22 (.tmp rfl) ho_ rfl))) ?_
          refine JX.f 2 [39] rfl rfl rfl rfl rfl rfl rfl rfl (fun ow_ => (.q rfl (QW.call gofn121 (.cons (.tmp rfl) .nil) (rorder_ok _ (by assumption))))) ?_
          refine JX.f 3 [] rfl rfl rfl rfl rfl rfl rfl rfl (fun ow_ => (.q rfl (QW.field_ptr fo26_1 (.tmp rfl) rfl))) ?_
          refine JX.o 4 0 [41] rfl rfl rfl rfl rfl rfl rfl rfl rfl (fun ow_ ho_ => (.q rfl (QW.load_box1 0 ty22 (.tmp rfl) ho_ rfl))) ?_
          refine JX.f 5 [42] rfl rfl rfl rfl rfl rfl rfl rfl (fun ow_ => (.q rfl (QW.call gofn121 (.cons (.tmp rfl) .nil) (rorder_ok _ (by assumption))))) ?_
          refine JX.f 6 [40] rfl rfl rfl rfl rfl rfl rfl rfl (fun ow_ => (.q rfl (QW.assign (.tmp rfl)))) ?_
          refine JX.f 7 [43] rfl rfl rfl rfl rfl rfl rfl rfl (fun ow_ => (.q rfl (QW.assign (.tmp rfl)))) ?_
          refine JX.fin (by kernel_rfl) (by kernel_rfl) fun bs_ => ?_
          refine QX.conv (by (try simp only [vlF, bxF, tkM, lvM, Flt.val, Flt.bx, List.append_assoc, List.take_succ_cons, List.take_zero, List.append_eq, id_eq, stepsO, List.map_cons, List.map_nil, valO, nthO, curO, mrg, List.reverse_cons, List.reverse_nil, List.nil_append, List.cons_append, List.append_nil, List.getElem?_cons_zero, List.getElem?_cons_succ, Option.map_some, Option.getD_some, List.set_cons_zero, List.set_cons_succ, AV.cellsOf, splice_zero, splice_succ, Nat.zero_add, Nat.reduceAdd]); rfl) ?_
          refine thenQ.n ?_
          refine J.seq ?_
          refine J.region_lit ?_
          refine JL.q rfl rfl rfl (QW.move (.tmp rfl)) ?_
          refine JL.q rfl rfl rfl (QW.move (.tmp rfl)) ?_
          refine JL.q rfl rfl rfl (QW.lss (.tmp rfl) (.tmp rfl)) ?_
          refine JL.q rfl rfl rfl (QW.move (.tmp rfl)) ?_
          refine JL.q rfl rfl rfl (QW.move (.tmp rfl)) ?_
          refine JL.q rfl rfl rfl (QW.eql (.tmp rfl) (.tmp rfl)) ?_
          refine JL.q rfl rfl rfl (QW.call gofn120 (.cons (.tmp rfl) (.cons (.tmp rfl) .nil)) (number02_ok _ _)) ?_
          refine JL.q rfl rfl rfl (QW.assign (.tmp rfl)) ?_
          refine JL.nil ?_
          refine thenQ.n ?_
          refine J.ret ?_
          refine blkQ.r ?_
          refine thenQ.r ?_
          exact ⟨_, selP [.k, .k] _, _, RetEv.one rfl (REv.tmp rfl (.refl _)), rfl, sel_perm [.k, .k] _, ⟨by rw [ord_num hp hq (.inr rfl), numI_int]; rfl, rfl⟩⟩
        · skip
          have hn2 : k ≠ 2 := by simpa using c3
          refine J.seq ?_
          refine J.region_lit ?_
          refine JL.q rfl rfl rfl (QW.eql (.tmp rfl) .const) ?_
          refine JL.q rfl rfl rfl (QW.assign (.tmp rfl)) ?_
          refine JL.nil ?_
          refine thenQ.n ?_
          refine J.cond (.tmp rfl) (fun c4 => ?_) (fun c4 => ?_)
          · skip
            obtain rfl : k = 3 := by simpa using c4
            refine J.seq ?_
            refine J.region_lit ?_
            refine JL.q rfl rfl rfl (QW.field_ptr fo26_2 (.tmp rfl) rfl) ?_
            refine JL.q rfl rfl rfl (QW.load_box1 1 ty9 (.tmp rfl) rfl rfl) ?_
            refine JL.q rfl rfl rfl (QW.field_ptr fo26_2 (.tmp rfl) rfl) ?_
            refine JL.q rfl rfl rfl (QW.load_box1 0 ty9 (.tmp rfl) rfl rfl) ?_
            refine JL.q rfl rfl rfl (QW.lss_s (.tmp rfl) (.tmp rfl)) ?_
            refine JL.q rfl rfl rfl (QW.field_ptr fo26_2 (.tmp rfl) rfl) ?_
            refine JL.q rfl rfl rfl (QW.load_box1 1 ty9 (.tmp rfl) rfl rfl) ?_
            refine JL.q rfl rfl rfl (QW.field_ptr fo26_2 (.tmp rfl) rfl) ?_
            refine JL.q rfl rfl rfl (QW.load_box1 0 ty9 (.tmp rfl) rfl rfl) ?_
            refine JL.q rfl rfl rfl (QW.eql_s (.tmp rfl) (.tmp rfl)) ?_
            refine JL.q rfl rfl rfl (QW.call gofn120 (.cons (.tmp rfl) (.cons (.tmp rfl) .nil)) (number02_ok _ _)) ?_
            refine JL.q rfl rfl rfl (QW.assign (.tmp rfl)) ?_
            refine JL.nil ?_
            refine thenQ.n ?_
            refine J.ret ?_
            refine blkQ.r ?_
            refine thenQ.r ?_
            exact ⟨_, selP [.k, .k] _, _, RetEv.one rfl (REv.tmp rfl (.refl _)), rfl, sel_perm [.k, .k] _, ⟨by rw [ord_text hp hq, numI_str], rfl⟩⟩
          · skip
            have hn3 : k ≠ 3 := by simpa using c4
            have hord := ord_list hp hq hn1 hn2 hn3
            refine J.skip ?_
            refine blkQ.n ?_
            refine thenQ.n ?_
            refine J.seq ?_
            refine J.seq ?_
            refine J.region_lit ?_
            refine JL.q rfl rfl rfl (QW.assign .const) ?_
            refine JL.nil ?_
            refine thenQ.n ?_
            refine J.block ?_
            refine J.loopK (ι := Nat) [2, 3] (fun i => [(7, .c (.int .i64 (i : Int)))]) (fun _ oo => oo) (fun i => i ≤ ks.length ∧ i ≤ ks'.length ∧ cmpK ks ks' = cmpK (ks.drop i) (ks'.drop i)) (fun i => ks.length - i) 0 (⟨Nat.zero_le _, Nat.zero_le _, rfl⟩) (Wk.re (.cons rfl (.refl _) (.cons rfl (.refl _) (.cons rfl (.refl _) .nil))) (Reown.refl _) (fun _ h => by first | exact h | simp [h])) ?_
            intro i ⟨hk, hk2, hs⟩
            refine J.conv (by (try simp only [id_eq, stepsO, List.map_cons, List.map_nil, valO, nthO, curO, mrg, List.reverse_cons, List.reverse_nil, List.nil_append, List.cons_append, List.append_nil, List.getElem?_cons_zero, List.getElem?_cons_succ, Option.map_some, Option.getD_some, List.set_cons_zero, List.set_cons_succ, AV.cellsOf, splice_zero, splice_succ, Nat.zero_add, Nat.reduceAdd]); rfl) ?_
            refine J.seq ?_
            refine J.seq ?_
            refine J.region_lit ?_
            refine JL.q rfl rfl rfl (QW.move (.tmp rfl)) ?_
            refine JL.q rfl rfl rfl (QW.field_ptr fo26_3 (.tmp rfl) rfl) ?_
            refine JL.q rfl rfl rfl (QW.load_box1 1 ty23 (.tmp rfl) rfl rfl) ?_
            refine JL.q rfl rfl rfl (by first | exact QW.len_slE sl23 (.tmp rfl) (keysAV_length _) | exact QW.len_slE sl23 (.tmp rfl) (V.css_length _ _) | exact QW.len_slE sl23 (.tmp rfl) (intsAV_length _) | exact QW.len_sl sl23 (.tmp rfl) | exact QW.len_nil sl23 (.tmp rfl)) ?_
            refine JL.q rfl rfl rfl (QW.lss (.tmp rfl) (.tmp rfl)) ?_
            refine JL.q rfl rfl rfl (QW.move (.tmp rfl)) ?_
            refine JL.g rfl rfl rfl rfl rfl (fun hg => (QW.move (.tmp rfl))) ?_
            refine JL.g rfl rfl rfl rfl rfl (fun hg => (QW.field_ptr fo26_3 (.tmp rfl) rfl)) ?_
            refine JL.g rfl rfl rfl rfl rfl (fun hg => (QW.load_box1 0 ty23 (.when rfl hg) rfl rfl)) ?_
            refine JL.g rfl rfl rfl rfl rfl (fun hg => (by first | exact QW.len_slE sl23 (.when rfl hg) (keysAV_length _) | exact QW.len_slE sl23 (.when rfl hg) (V.css_length _ _) | exact QW.len_slE sl23 (.when rfl hg) (intsAV_length _) | exact QW.len_sl sl23 (.when rfl hg) | exact QW.len_nil sl23 (.when rfl hg))) ?_
            refine JL.g rfl rfl rfl rfl rfl (fun hg => (QW.lss (.when rfl hg) (.when rfl hg))) ?_
            refine JL.q rfl rfl rfl (QW.pick_and (.tmp rfl) (.tmp rfl)) ?_
            refine JL.nil ?_
            refine thenQ.n ?_
            refine J.cond (.tmp rfl) (fun c5 => ?_) (fun c5 => ?_)
            · skip
              have hlt : i < ks.length := by (simp at c5; omega)
              have hlt2 : i < ks'.length := by (simp at c5; omega)
              refine J.skip ?_
              refine thenQ.n ?_
              refine J.seq ?_
              refine J.block ?_
              refine J.seq ?_
              refine J.regionX mixed ?_
              refine JX.f 0 [] rfl rfl rfl rfl rfl rfl rfl rfl (fun ow_ => (.q rfl (QW.field_ptr fo26_3 (.tmp rfl) rfl))) ?_
              refine JX.o 1 1 [78] rfl rfl rfl rfl rfl rfl rfl rfl rfl (fun ow_ ho_ => (.q rfl (QW.load_box1 1 ty23 (.tmp rfl) ho_ rfl))) ?_
              refine JX.f 2 [] rfl rfl rfl rfl rfl rfl rfl rfl (fun ow_ => (.q rfl (QW.move (.tmp rfl)))) ?_
              refine JX.f 3 [79, 80] rfl rfl rfl rfl rfl rfl rfl rfl (fun ow_ => (.q rfl (QW.index_sl sl23 ty9 rfl (.tmp rfl) (.tmp rfl) (by first | rfl | omega | (simp; done)) (by first | exact keysAV_getE hlt | exact keysAV_getE hlt2 | exact V.css_getE _ hlt | exact V.css_getE _ hlt2)))) ?_
              refine JX.f 4 [81] rfl rfl rfl rfl rfl rfl rfl rfl (fun ow_ => (.q rfl (QW.load_ref1 ty9 (.tmp rfl) rfl))) ?_
              refine JX.f 5 [] rfl rfl rfl rfl rfl rfl rfl rfl (fun ow_ => (.q rfl (QW.field_ptr fo26_3 (.tmp rfl) rfl))) ?_
              refine JX.o 6 0 [83] rfl rfl rfl rfl rfl rfl rfl rfl rfl (fun ow_ ho_ => (.q rfl (QW.load_box1 0 ty23 (.tmp rfl) ho_ rfl))) ?_
              refine JX.f 7 [] rfl rfl rfl rfl rfl rfl rfl rfl (fun ow_ => (.q rfl (QW.move (.tmp rfl)))) ?_
              refine JX.f 8 [84, 85] rfl rfl rfl rfl rfl rfl rfl rfl (fun ow_ => (.q rfl (QW.index_sl sl23 ty9 rfl (.tmp rfl) (.tmp rfl) (by first | rfl | omega | (simp; done)) (by first | exact keysAV_getE hlt | exact keysAV_getE hlt2 | exact V.css_getE _ hlt | exact V.css_getE _ hlt2)))) ?_
              refine JX.f 9 [86] rfl rfl rfl rfl rfl rfl rfl rfl (fun ow_ => (.q rfl (QW.load_ref1 ty9 (.tmp rfl) rfl))) ?_
              refine JX.f 10 [82, 87] rfl rfl rfl rfl rfl rfl rfl rfl (fun ow_ => (.q rfl (QW.neq_s (.tmp rfl) (.tmp rfl)))) ?_
              refine JX.fin (by kernel_rfl) (by kernel_rfl) fun bs_ => ?_
              refine QX.conv (by (try simp only [vlF, bxF, tkM, lvM, Flt.val, Flt.bx, List.append_assoc, List.take_succ_cons, List.take_zero, List.append_eq, id_eq, stepsO, List.map_cons, List.map_nil, valO, nthO, curO, mrg, List.reverse_cons, List.reverse_nil, List.nil_append, List.cons_append, List.append_nil, List.getElem?_cons_zero, List.getElem?_cons_succ, Option.map_some, Option.getD_some, List.set_cons_zero, List.set_cons_succ, AV.cellsOf, splice_zero, splice_succ, Nat.zero_add, Nat.reduceAdd]); rfl) ?_
              refine thenQ.n ?_
              refine J.cond (.tmp rfl) (fun c6 => ?_) (fun c6 => ?_)
              · skip
                have hz : ks[i] ≠ ks'[i] := by simpa using c6
                refine J.seq ?_
                refine J.regionX mixed ?_
                refine JX.f 0 [] rfl rfl rfl rfl rfl rfl rfl rfl (fun ow_ => (.q rfl (QW.field_ptr fo26_3 (.tmp rfl) rfl))) ?_
                refine JX.o 1 1 [89] rfl rfl rfl rfl rfl rfl rfl rfl rfl (fun ow_ ho_ => (.q rfl (QW.load_box1 1 ty23 (.tmp rfl) ho_ rfl))) ?_
                refine JX.f 2 [] rfl rfl rfl rfl rfl rfl rfl rfl (fun ow_ => (.q rfl (QW.move (.tmp rfl)))) ?_
                refine JX.f 3 [90, 91] rfl rfl rfl rfl rfl rfl rfl rfl (fun ow_ => (.q rfl (QW.index_sl sl23 ty9 rfl (.tmp rfl) (.tmp rfl) (by first | rfl | omega | (simp; done)) (by first | exact keysAV_getE hlt | exact keysAV_getE hlt2 | exact V.css_getE _ hlt | exact V.css_getE _ hlt2)))) ?_
                refine JX.f 4 [92] rfl rfl rfl rfl rfl rfl rfl rfl (fun ow_ => (.q rfl (QW.load_ref1 ty9 (.tmp rfl) rfl))) ?_
                refine JX.f 5 [] rfl rfl rfl rfl rfl rfl rfl rfl (fun ow_ => (.q rfl (QW.field_ptr fo26_3 (.tmp rfl) rfl))) ?_
                refine JX.o 6 0 [94] rfl rfl rfl rfl rfl rfl rfl rfl rfl (fun ow_ ho_ => (.q rfl (QW.load_box1 0 ty23 (.tmp rfl) ho_ rfl))) ?_
                refine JX.f 7 [] rfl rfl rfl rfl rfl rfl rfl rfl (fun ow_ => (.q rfl (QW.move (.tmp rfl)))) ?_
                refine JX.f 8 [95, 96] rfl rfl rfl rfl rfl rfl rfl rfl (fun ow_ => (.q rfl (QW.index_sl sl23 ty9 rfl (.tmp rfl) (.tmp rfl) (by first | rfl | omega | (simp; done)) (by first | exact keysAV_getE hlt | exact keysAV_getE hlt2 | exact V.css_getE _ hlt | exact V.css_getE _ hlt2)))) ?_
                refine JX.f 9 [97] rfl rfl rfl rfl rfl rfl rfl rfl (fun ow_ => (.q rfl (QW.load_ref1 ty9 (.tmp rfl) rfl))) ?_
                refine JX.f 10 [93, 98] rfl rfl rfl rfl rfl rfl rfl rfl (fun ow_ => (.q rfl (QW.lss_s (.tmp rfl) (.tmp rfl)))) ?_
                refine JX.f 11 [99] rfl rfl rfl rfl rfl rfl rfl rfl (fun ow_ => (.q rfl (QW.call gofn120 (.cons (.tmp rfl) (.cons .const .nil)) (number02_ok _ _)))) ?_
                refine JX.f 12 [100] rfl rfl rfl rfl rfl rfl rfl rfl (fun ow_ => (.q rfl (QW.assign (.tmp rfl)))) ?_
                refine JX.fin (by kernel_rfl) (by kernel_rfl) fun bs_ => ?_
                refine QX.conv (by (try simp only [vlF, bxF, tkM, lvM, Flt.val, Flt.bx, List.append_assoc, List.take_succ_cons, List.take_zero, List.append_eq, id_eq, stepsO, List.map_cons, List.map_nil, valO, nthO, curO, mrg, List.reverse_cons, List.reverse_nil, List.nil_append, List.cons_append, List.append_nil, List.getElem?_cons_zero, List.getElem?_cons_succ, Option.map_some, Option.getD_some, List.set_cons_zero, List.set_cons_succ, AV.cellsOf, splice_zero, splice_succ, Nat.zero_add, Nat.reduceAdd]); rfl) ?_
                refine thenQ.n ?_
                refine J.ret ?_
                refine blkQ.r ?_
                refine thenQ.r ?_
                refine thenQ.r ?_
                refine blkQ.r ?_
                refine thenQ.r ?_
                exact ⟨_, selP [.k, .k] _, _, RetEv.one rfl (REv.tmp rfl (.refl _)), rfl, sel_perm [.k, .k] _, ⟨by rw [hord, hs, cmpK_drop hlt hlt2, numI_sne hz, orI_n (a := cmpS _ _) (fun h => hz (cmpS_zero.1 h)), orI_n (fun h => hz (cmpS_zero.1 h))], rfl⟩⟩
              · skip
                have hz : ks[i] = ks'[i] := by simpa using c6
                refine J.skip ?_
                refine blkQ.n ?_
                refine thenQ.n ?_
                refine J.region_lit ?_
                refine JL.q rfl rfl rfl (QW.move (.tmp rfl)) ?_
                refine JL.q rfl rfl rfl (QW.add (.tmp rfl) .const (by first | exact w64n (by first | rfl | omega | (simp; done)) (by omega) | exact w64 (by omega) | rfl)) ?_
                refine JL.q rfl rfl rfl (QW.assign (.tmp rfl)) ?_
                refine JL.nil ?_
                refine thenQ.n ?_
                exact ⟨i + 1, ⟨hlt, hlt2, by rw [hs, cmpK_drop hlt hlt2, hz, cmpS_self, orI_z]⟩, by omega, Wk.re (.cons rfl (.refl _) (.cons rfl (.refl _) (.cons rfl (.refl _) .nil))) (Reown.refl _) (fun _ h => by first | exact h | simp [h])⟩
            · skip
              have hge : ks.length ≤ i ∨ ks'.length ≤ i := by (simp at c5; omega)
              refine J.exit ?_
              refine thenQ.x ?_
              refine thenQ.x ?_
              refine blkQ.hit ?_
              refine thenQ.n ?_
              refine J.seq ?_
              refine J.seq ?_
              refine J.region_lit ?_
              refine JL.q rfl rfl rfl (QW.field_ptr fo26_3 (.tmp rfl) rfl) ?_
              refine JL.q rfl rfl rfl (QW.load_box1 1 ty23 (.tmp rfl) rfl rfl) ?_
              refine JL.q rfl rfl rfl (by first | exact QW.len_slE sl23 (.tmp rfl) (keysAV_length _) | exact QW.len_slE sl23 (.tmp rfl) (V.css_length _ _) | exact QW.len_slE sl23 (.tmp rfl) (intsAV_length _) | exact QW.len_sl sl23 (.tmp rfl) | exact QW.len_nil sl23 (.tmp rfl)) ?_
              refine JL.q rfl rfl rfl (QW.field_ptr fo26_3 (.tmp rfl) rfl) ?_
              refine JL.q rfl rfl rfl (QW.load_box1 0 ty23 (.tmp rfl) rfl rfl) ?_
              refine JL.q rfl rfl rfl (by first | exact QW.len_slE sl23 (.tmp rfl) (keysAV_length _) | exact QW.len_slE sl23 (.tmp rfl) (V.css_length _ _) | exact QW.len_slE sl23 (.tmp rfl) (intsAV_length _) | exact QW.len_sl sl23 (.tmp rfl) | exact QW.len_nil sl23 (.tmp rfl)) ?_
              refine JL.q rfl rfl rfl (QW.neq (.tmp rfl) (.tmp rfl)) ?_
              refine JL.nil ?_
              refine thenQ.n ?_
              refine J.cond (.tmp rfl) (fun c6 => ?_) (fun c6 => ?_)
              · skip
                have hz : ks.length ≠ ks'.length := by (simp at c6; omega)
                refine J.seq ?_
                refine J.region_lit ?_
                refine JL.q rfl rfl rfl (QW.field_ptr fo26_3 (.tmp rfl) rfl) ?_
                refine JL.q rfl rfl rfl (QW.load_box1 1 ty23 (.tmp rfl) rfl rfl) ?_
                refine JL.q rfl rfl rfl (by first | exact QW.len_slE sl23 (.tmp rfl) (keysAV_length _) | exact QW.len_slE sl23 (.tmp rfl) (V.css_length _ _) | exact QW.len_slE sl23 (.tmp rfl) (intsAV_length _) | exact QW.len_sl sl23 (.tmp rfl) | exact QW.len_nil sl23 (.tmp rfl)) ?_
                refine JL.q rfl rfl rfl (QW.field_ptr fo26_3 (.tmp rfl) rfl) ?_
                refine JL.q rfl rfl rfl (QW.load_box1 0 ty23 (.tmp rfl) rfl rfl) ?_
                refine JL.q rfl rfl rfl (by first | exact QW.len_slE sl23 (.tmp rfl) (keysAV_length _) | exact QW.len_slE sl23 (.tmp rfl) (V.css_length _ _) | exact QW.len_slE sl23 (.tmp rfl) (intsAV_length _) | exact QW.len_sl sl23 (.tmp rfl) | exact QW.len_nil sl23 (.tmp rfl)) ?_
                refine JL.q rfl rfl rfl (QW.lss (.tmp rfl) (.tmp rfl)) ?_
                refine JL.q rfl rfl rfl (QW.call gofn120 (.cons (.tmp rfl) (.cons .const .nil)) (number02_ok _ _)) ?_
                refine JL.q rfl rfl rfl (QW.assign (.tmp rfl)) ?_
                refine JL.nil ?_
                refine thenQ.n ?_
                refine J.ret ?_
                refine thenQ.r ?_
                have hc : cmpK ks ks' = cmpI (ks.length : Int) (ks'.length : Int) := by
                  rw [hs]
                  rcases Nat.lt_or_gt_of_ne hz with h | h
                  · rw [cmpK_lt (by omega) (by omega)]; unfold cmpI; rw [if_pos (by omega)]
                  · rw [cmpK_gt (by omega) (by omega)]; unfold cmpI; rw [if_neg (by omega), if_pos (by omega)]
                exact ⟨_, selP [.k, .k] _, _, RetEv.one rfl (REv.tmp rfl (.refl _)), rfl, sel_perm [.k, .k] _, ⟨by rw [hord, hc, numI_ne (by omega), orI_n (fun h => by have := cmpI_zero.1 h; omega)], rfl⟩⟩
              · skip
                have hz : ks.length = ks'.length := by (simp at c6; omega)
                rw [hs, cmpK_eq (by omega) (by omega), orI_z] at hord
                clear hs
                refine J.skip ?_
                refine thenQ.n ?_
                refine J.seq ?_
                refine J.seq ?_
                refine J.region_lit ?_
                refine JL.q rfl rfl rfl (QW.assign .const) ?_
                refine JL.nil ?_
                refine thenQ.n ?_
                refine J.block ?_
                refine J.loopK (ι := Nat) [2, 3] (fun j => [(8, .c (.int .i64 (j : Int)))]) (fun _ oo => oo) (fun j => j ≤ is.length ∧ j ≤ is'.length ∧ V.ords is is' = V.ords (is.drop j) (is'.drop j)) (fun j => is.length - j) 0 (⟨Nat.zero_le _, Nat.zero_le _, rfl⟩) (Wk.re (.cons rfl (.refl _) (.cons rfl (.refl _) (.cons rfl (.refl _) .nil))) (Reown.refl _) (fun _ h => by first | exact h | simp [h])) ?_
                intro j ⟨hk, hk2, hs⟩
                refine J.conv (by (try simp only [id_eq, stepsO, List.map_cons, List.map_nil, valO, nthO, curO, mrg, List.reverse_cons, List.reverse_nil, List.nil_append, List.cons_append, List.append_nil, List.getElem?_cons_zero, List.getElem?_cons_succ, Option.map_some, Option.getD_some, List.set_cons_zero, List.set_cons_succ, AV.cellsOf, splice_zero, splice_succ, Nat.zero_add, Nat.reduceAdd]); rfl) ?_
                refine J.seq ?_
                refine J.seq ?_
                refine J.region_lit ?_
                refine JL.q rfl rfl rfl (QW.move (.tmp rfl)) ?_
                refine JL.q rfl rfl rfl (QW.field_ptr fo26_4 (.tmp rfl) rfl) ?_
                refine JL.q rfl rfl rfl (QW.load_box1 1 ty24 (.tmp rfl) rfl rfl) ?_
                refine JL.q rfl rfl rfl (by first | exact QW.len_slE sl24 (.tmp rfl) (keysAV_length _) | exact QW.len_slE sl24 (.tmp rfl) (V.css_length _ _) | exact QW.len_slE sl24 (.tmp rfl) (intsAV_length _) | exact QW.len_sl sl24 (.tmp rfl) | exact QW.len_nil sl24 (.tmp rfl)) ?_
                refine JL.q rfl rfl rfl (QW.lss (.tmp rfl) (.tmp rfl)) ?_
                refine JL.q rfl rfl rfl (QW.move (.tmp rfl)) ?_
                refine JL.g rfl rfl rfl rfl rfl (fun hg => (QW.move (.tmp rfl))) ?_
                refine JL.g rfl rfl rfl rfl rfl (fun hg => (QW.field_ptr fo26_4 (.tmp rfl) rfl)) ?_
                refine JL.g rfl rfl rfl rfl rfl (fun hg => (QW.load_box1 0 ty24 (.when rfl hg) rfl rfl)) ?_
                refine JL.g rfl rfl rfl rfl rfl (fun hg => (by first | exact QW.len_slE sl24 (.when rfl hg) (keysAV_length _) | exact QW.len_slE sl24 (.when rfl hg) (V.css_length _ _) | exact QW.len_slE sl24 (.when rfl hg) (intsAV_length _) | exact QW.len_sl sl24 (.when rfl hg) | exact QW.len_nil sl24 (.when rfl hg))) ?_
                refine JL.g rfl rfl rfl rfl rfl (fun hg => (QW.lss (.when rfl hg) (.when rfl hg))) ?_
                refine JL.q rfl rfl rfl (QW.pick_and (.tmp rfl) (.tmp rfl)) ?_
                refine JL.nil ?_
                refine thenQ.n ?_
                refine J.cond (.tmp rfl) (fun c7 => ?_) (fun c7 => ?_)
                · skip
                  have hlt : j < is.length := by (simp at c7; omega)
                  have hlt2 : j < is'.length := by (simp at c7; omega)
                  refine J.skip ?_
                  refine thenQ.n ?_
                  refine J.seq ?_
                  refine J.block ?_
                  refine J.seq ?_
                  refine J.regionX mixed ?_
                  refine JX.f 0 [] rfl rfl rfl rfl rfl rfl rfl rfl (fun ow_ => (.q rfl (QW.field_ptr fo26_4 (.tmp rfl) rfl))) ?_
                  refine JX.o 1 1 [130] rfl rfl rfl rfl rfl rfl rfl rfl rfl (fun ow_ ho_ => (.q rfl (QW.load_box1 1 ty24 (.tmp rfl) ho_ rfl))) ?_
                  refine JX.f 2 [] rfl rfl rfl rfl rfl rfl rfl rfl (fun ow_ => (.q rfl (QW.move (.tmp rfl)))) ?_
                  refine JX.f 3 [131, 132] rfl rfl rfl rfl rfl rfl rfl rfl (fun ow_ => (.q rfl (QW.index_sl sl24 ty26 rfl (.tmp rfl) (.tmp rfl) (by first | rfl | omega | (simp; done)) (by first | exact keysAV_getE hlt | exact keysAV_getE hlt2 | exact V.css_getE _ hlt | exact V.css_getE _ hlt2)))) ?_
                  refine JX.f 4 [133] rfl rfl rfl rfl rfl rfl rfl rfl (fun ow_ => (.q rfl (by first | exact QW.load_ref ty26 (.tmp rfl) rfl rfl | exact QW.load_ref ty26 (.tmp rfl) (take_at0 (V.cs_length _ _) rfl) (V.cs_length _ _)))) ?_
                  refine JX.f 5 [] rfl rfl rfl rfl rfl rfl rfl rfl (fun ow_ => (.q rfl (QW.field_ptr fo26_4 (.tmp rfl) rfl))) ?_
                  refine JX.o 6 0 [135] rfl rfl rfl rfl rfl rfl rfl rfl rfl (fun ow_ ho_ => (.q rfl (QW.load_box1 0 ty24 (.tmp rfl) ho_ rfl))) ?_
                  refine JX.f 7 [] rfl rfl rfl rfl rfl rfl rfl rfl (fun ow_ => (.q rfl (QW.move (.tmp rfl)))) ?_
                  refine JX.f 8 [136, 137] rfl rfl rfl rfl rfl rfl rfl rfl (fun ow_ => (.q rfl (QW.index_sl sl24 ty26 rfl (.tmp rfl) (.tmp rfl) (by first | rfl | omega | (simp; done)) (by first | exact keysAV_getE hlt | exact keysAV_getE hlt2 | exact V.css_getE _ hlt | exact V.css_getE _ hlt2)))) ?_
                  refine JX.f 9 [138] rfl rfl rfl rfl rfl rfl rfl rfl (fun ow_ => (.q rfl (by first | exact QW.load_ref ty26 (.tmp rfl) rfl rfl | exact QW.load_ref ty26 (.tmp rfl) (take_at0 (V.cs_length _ _) rfl) (V.cs_length _ _)))) ?_
                  refine JX.f 10 [134, 139] rfl rfl rfl rfl rfl rfl rfl rfl (fun ow_ => (.q rfl (QW.call gofn83 (.cons (.tmp rfl) (.cons (.tmp rfl) .nil)) (ih Vc.self Vc.self (hwi _ (List.getElem_mem hlt)) (hwi' _ (List.getElem_mem hlt2)) (hf.kid (List.getElem_mem hlt)) (hg.kid (List.getElem_mem hlt2)) (V.sz_get hn hlt))))) ?_
                  refine JX.f 11 [140] rfl rfl rfl rfl rfl rfl rfl rfl (fun ow_ => (.q rfl (QW.assign (.tmp rfl)))) ?_
                  refine JX.fin (by kernel_rfl) (by kernel_rfl) fun bs_ => ?_
                  refine QX.conv (by (try simp only [vlF, bxF, tkM, lvM, Flt.val, Flt.bx, List.append_assoc, List.take_succ_cons, List.take_zero, List.append_eq, id_eq, stepsO, List.map_cons, List.map_nil, valO, nthO, curO, mrg, List.reverse_cons, List.reverse_nil, List.nil_append, List.cons_append, List.append_nil, List.getElem?_cons_zero, List.getElem?_cons_succ, Option.map_some, Option.getD_some, List.set_cons_zero, List.set_cons_succ, AV.cellsOf, splice_zero, splice_succ, Nat.zero_add, Nat.reduceAdd]); rfl) ?_
                  refine thenQ.n ?_
                  refine J.seq ?_
                  refine J.region_lit ?_
                  refine JL.q rfl rfl rfl (QW.move (.tmp rfl)) ?_
                  refine JL.q rfl rfl rfl (QW.neq (.tmp rfl) .const) ?_
                  refine JL.nil ?_
                  refine thenQ.n ?_
                  refine J.cond (.tmp rfl) (fun c8 => ?_) (fun c8 => ?_)
                  · skip
                    have hz : is[j].ord is'[j] ≠ 0 := by simpa using c8
                    refine J.seq ?_
                    refine J.region_lit ?_
                    refine JL.q rfl rfl rfl (QW.move (.tmp rfl)) ?_
                    refine JL.q rfl rfl rfl (QW.assign (.tmp rfl)) ?_
                    refine JL.nil ?_
                    refine thenQ.n ?_
                    refine J.ret ?_
                    refine blkQ.r ?_
                    refine thenQ.r ?_
                    refine thenQ.r ?_
                    refine blkQ.r ?_
                    refine thenQ.r ?_
                    exact ⟨_, selP [.k, .k] _, _, RetEv.one rfl (REv.tmp rfl (.refl _)), rfl, sel_perm [.k, .k] _, ⟨by rw [hord, hs, ords_drop hlt hlt2, orI_n hz], rfl⟩⟩
                  · skip
                    have hz : is[j].ord is'[j] = 0 := by simpa using c8
                    refine J.skip ?_
                    refine blkQ.n ?_
                    refine thenQ.n ?_
                    refine J.region_lit ?_
                    refine JL.q rfl rfl rfl (QW.move (.tmp rfl)) ?_
                    refine JL.q rfl rfl rfl (QW.add (.tmp rfl) .const (by first | exact w64n (by first | rfl | omega | (simp; done)) (by omega) | exact w64 (by omega) | rfl)) ?_
                    refine JL.q rfl rfl rfl (QW.assign (.tmp rfl)) ?_
                    refine JL.nil ?_
                    refine thenQ.n ?_
                    exact ⟨j + 1, ⟨hlt, hlt2, by rw [hs, ords_drop hlt hlt2, hz, orI_z]⟩, by omega, Wk.re (.cons rfl (.refl _) (.cons rfl (.refl _) (.cons rfl (.refl _) .nil))) (Reown.refl _) (fun _ h => by first | exact h | simp [h])⟩
                · skip
                  have hge : is.length ≤ j ∨ is'.length ≤ j := by (simp at c7; omega)
                  refine J.exit ?_
                  refine thenQ.x ?_
                  refine thenQ.x ?_
                  refine blkQ.hit ?_
                  refine thenQ.n ?_
                  refine J.seq ?_
                  refine J.region_lit ?_
                  refine JL.q rfl rfl rfl (QW.field_ptr fo26_4 (.tmp rfl) rfl) ?_
                  refine JL.q rfl rfl rfl (QW.load_box1 1 ty24 (.tmp rfl) rfl rfl) ?_
                  refine JL.q rfl rfl rfl (by first | exact QW.len_slE sl24 (.tmp rfl) (keysAV_length _) | exact QW.len_slE sl24 (.tmp rfl) (V.css_length _ _) | exact QW.len_slE sl24 (.tmp rfl) (intsAV_length _) | exact QW.len_sl sl24 (.tmp rfl) | exact QW.len_nil sl24 (.tmp rfl)) ?_
                  refine JL.q rfl rfl rfl (QW.field_ptr fo26_4 (.tmp rfl) rfl) ?_
                  refine JL.q rfl rfl rfl (QW.load_box1 0 ty24 (.tmp rfl) rfl rfl) ?_
                  refine JL.q rfl rfl rfl (by first | exact QW.len_slE sl24 (.tmp rfl) (keysAV_length _) | exact QW.len_slE sl24 (.tmp rfl) (V.css_length _ _) | exact QW.len_slE sl24 (.tmp rfl) (intsAV_length _) | exact QW.len_sl sl24 (.tmp rfl) | exact QW.len_nil sl24 (.tmp rfl)) ?_
                  refine JL.q rfl rfl rfl (QW.lss (.tmp rfl) (.tmp rfl)) ?_
                  refine JL.q rfl rfl rfl (QW.field_ptr fo26_4 (.tmp rfl) rfl) ?_
                  refine JL.q rfl rfl rfl (QW.load_box1 1 ty24 (.tmp rfl) rfl rfl) ?_
                  refine JL.q rfl rfl rfl (by first | exact QW.len_slE sl24 (.tmp rfl) (keysAV_length _) | exact QW.len_slE sl24 (.tmp rfl) (V.css_length _ _) | exact QW.len_slE sl24 (.tmp rfl) (intsAV_length _) | exact QW.len_sl sl24 (.tmp rfl) | exact QW.len_nil sl24 (.tmp rfl)) ?_
                  refine JL.q rfl rfl rfl (QW.field_ptr fo26_4 (.tmp rfl) rfl) ?_
                  refine JL.q rfl rfl rfl (QW.load_box1 0 ty24 (.tmp rfl) rfl rfl) ?_
                  refine JL.q rfl rfl rfl (by first | exact QW.len_slE sl24 (.tmp rfl) (keysAV_length _) | exact QW.len_slE sl24 (.tmp rfl) (V.css_length _ _) | exact QW.len_slE sl24 (.tmp rfl) (intsAV_length _) | exact QW.len_sl sl24 (.tmp rfl) | exact QW.len_nil sl24 (.tmp rfl)) ?_
                  refine JL.q rfl rfl rfl (QW.eql (.tmp rfl) (.tmp rfl)) ?_
                  refine JL.q rfl rfl rfl (QW.call gofn120 (.cons (.tmp rfl) (.cons (.tmp rfl) .nil)) (number02_ok _ _)) ?_
                  refine JL.q rfl rfl rfl (QW.assign (.tmp rfl)) ?_
                  refine JL.nil ?_
                  refine thenQ.n ?_
                  refine J.ret ?_
                  have hc : V.ords is is' = cmpI (is.length : Int) (is'.length : Int) := by
                    rw [hs]
                    rcases Nat.lt_trichotomy is.length is'.length with h | h | h
                    · rw [ords_lt (by omega) (by omega)]; unfold cmpI; rw [if_pos (by omega)]
                    · rw [ords_eq (by omega) (by omega), h, cmpI_self]
                    · rw [ords_gt (by omega) (by omega)]; unfold cmpI; rw [if_neg (by omega), if_pos (by omega)]
                  exact ⟨_, selP [.k, .k] _, _, RetEv.one rfl (REv.tmp rfl (.refl _)), rfl, sel_perm [.k, .k] _, ⟨by rw [hord, hc, ← numI_int], rfl⟩⟩
theorem rvorder_ok {v u : V} {ys zs : List AV} {fr fr2 : Bool} (hv : Vc fr v ys) (hu : Vc fr2 u zs) (hw : v.wf) (hw2 : u.wf) (hf : v.Fine) (hg : u.Fine) : Fn Try.prog 83 [.agg ys, .agg zs] (.c (.int .i64 (v.ord u))) := rvorder_n _ hv hu hw hw2 hf hg (Nat.le_refl _)
end Go.Proofs.Ytkiankpmkglhcaa.J

/- Walks: values compared; ValueOrders, ValueOrder. -/
namespace Go.Proofs.Ytkiankpmkglhcaa.J
open Go Go.RowKit
set_option linter.unusedVariables false
set_option linter.unusedSimpArgs false
set_option maxRecDepth 10000
set_option maxHeartbeats 4000000
def cmpAV (v u : V) : AV := .tup [.c (.int .i64 (v.cmp u).1), .c (.int .i64 (v.cmp u).2)]
theorem cmpAV_of {v u : V} {c e : Int} (h : v.cmp u = (c, e)) : cmpAV v u = .tup [.c (.int .i64 c), .c (.int .i64 e)] := by rw [cmpAV, h]
theorem vcmp_ok {fr fr2 : Bool} {v u : V} {ys zs : List AV} (hv : Vc fr v ys) (hu : Vc fr2 u zs) (hw : v.wf) (hw2 : u.wf) : Fn Try.prog 33 [.agg ys, .agg zs] (cmpAV v u) := by
  subst hv hu
  refine AC.of_J Try.func33 rfl Try.ntmps33 rfl fun w0 A0 => ?_
  refine J.seq ?_
  refine J.region_lit ?_
  refine JL.box_agg (.tmp rfl) rfl fun b2 => ?_
  refine JL.box_agg (.tmp rfl) rfl fun b3 => ?_
  refine JL.q rfl rfl rfl (QW.assign .const) ?_
  refine JL.q rfl rfl rfl (QW.assign .const) ?_
  refine JL.nil ?_
  refine thenQ.n ?_
  refine J.seq ?_
  refine J.seq ?_
  refine J.region_lit ?_
  refine JL.q rfl rfl rfl (by first | exact QW.load_box 1 ty26 (.tmp rfl) rfl rfl rfl | exact QW.load_box 1 ty26 (.tmp rfl) rfl (take_at (V.cs_length _ _) rfl) (V.cs_length _ _)) ?_
  refine JL.q rfl rfl rfl (QW.call gofn24 (.cons (.tmp rfl) .nil) (check_ok Vc.self hw)) ?_
  refine JL.q rfl rfl rfl (QW.assign (.tmp rfl)) ?_
  refine JL.nil ?_
  refine thenQ.n ?_
  refine J.seq ?_
  refine J.region_lit ?_
  refine JL.q rfl rfl rfl (QW.move (.tmp rfl)) ?_
  refine JL.q rfl rfl rfl (QW.neq (.tmp rfl) .const) ?_
  refine JL.nil ?_
  refine thenQ.n ?_
  refine J.cond (.tmp rfl) (fun c1 => ?_) (fun c1 => ?_)
  · skip
    simp at c1
    refine J.seq ?_
    refine J.region_lit ?_
    refine JL.q rfl rfl rfl (QW.move (.tmp rfl)) ?_
    refine JL.q rfl rfl rfl (QW.assign .const) ?_
    refine JL.q rfl rfl rfl (QW.assign (.tmp rfl)) ?_
    refine JL.nil ?_
    refine thenQ.n ?_
    refine J.ret ?_
    refine thenQ.r ?_
    exact ⟨_, selP [.k, .k] _, _, RetEv.two rfl (REv.tmp rfl (.refl _)) (REv.tmp rfl (.refl _)), rfl, sel_perm [.k, .k] _, ⟨congrArg Res.ret (cmpAV_of (c := 0) (e := v.err) (by rw [V.cmp, if_pos c1])).symm, rfl⟩⟩
  · skip
    simp at c1
    have hf := V.fine_of c1
    refine J.skip ?_
    refine thenQ.n ?_
    refine J.seq ?_
    refine J.seq ?_
    refine J.region_lit ?_
    refine JL.q rfl rfl rfl (by first | exact QW.load_box 0 ty26 (.tmp rfl) rfl rfl rfl | exact QW.load_box 0 ty26 (.tmp rfl) rfl (take_at (V.cs_length _ _) rfl) (V.cs_length _ _)) ?_
    refine JL.q rfl rfl rfl (QW.call gofn24 (.cons (.tmp rfl) .nil) (check_ok Vc.self hw2)) ?_
    refine JL.q rfl rfl rfl (QW.assign (.tmp rfl)) ?_
    refine JL.nil ?_
    refine thenQ.n ?_
    refine J.seq ?_
    refine J.region_lit ?_
    refine JL.q rfl rfl rfl (QW.move (.tmp rfl)) ?_
    refine JL.q rfl rfl rfl (QW.neq (.tmp rfl) .const) ?_
    refine JL.nil ?_
    refine thenQ.n ?_
    refine J.cond (.tmp rfl) (fun c2 => ?_) (fun c2 => ?_)
    · skip
      simp at c2
      refine J.seq ?_
      refine J.region_lit ?_
      refine JL.q rfl rfl rfl (QW.move (.tmp rfl)) ?_
      refine JL.q rfl rfl rfl (QW.assign .const) ?_
      refine JL.q rfl rfl rfl (QW.assign (.tmp rfl)) ?_
      refine JL.nil ?_
      refine thenQ.n ?_
      refine J.ret ?_
      refine thenQ.r ?_
      exact ⟨_, selP [.k, .k] _, _, RetEv.two rfl (REv.tmp rfl (.refl _)) (REv.tmp rfl (.refl _)), rfl, sel_perm [.k, .k] _, ⟨congrArg Res.ret (cmpAV_of (c := 0) (e := u.err) (by rw [V.cmp, if_neg (by simp [c1]), if_pos c2])).symm, rfl⟩⟩
    · skip
      simp at c2
      have hg := V.fine_of c2
      refine J.skip ?_
      refine thenQ.n ?_
      refine J.seq ?_
      refine J.region_lit ?_
      refine JL.q rfl rfl rfl (by first | exact QW.load_box 1 ty26 (.tmp rfl) rfl rfl rfl | exact QW.load_box 1 ty26 (.tmp rfl) rfl (take_at (V.cs_length _ _) rfl) (V.cs_length _ _)) ?_
      refine JL.q rfl rfl rfl (by first | exact QW.load_box 0 ty26 (.tmp rfl) rfl rfl rfl | exact QW.load_box 0 ty26 (.tmp rfl) rfl (take_at (V.cs_length _ _) rfl) (V.cs_length _ _)) ?_
      refine JL.q rfl rfl rfl (QW.call gofn82 (.cons (.tmp rfl) (.cons (.tmp rfl) .nil)) (vorder_ok Vc.self Vc.self hw hw2)) ?_
      refine JL.q rfl rfl rfl (QW.assign (.tmp rfl)) ?_
      refine JL.q rfl rfl rfl (QW.assign .const) ?_
      refine JL.nil ?_
      refine thenQ.n ?_
      refine J.ret ?_
      exact ⟨_, selP [.k, .k] _, _, RetEv.two rfl (REv.tmp rfl (.refl _)) (REv.tmp rfl (.refl _)), rfl, sel_perm [.k, .k] _, ⟨congrArg Res.ret (cmpAV_of (c := v.ord u) (e := 0) (by rw [V.cmp, if_neg (by simp [c1]), if_neg (by simp [c2])])).symm, rfl⟩⟩
theorem rvcmp_ok {fr fr2 : Bool} {v u : V} {ys zs : List AV} (hv : Vc fr v ys) (hu : Vc fr2 u zs) (hw : v.wf) (hw2 : u.wf) : Fn Try.prog 34 [.agg ys, .agg zs] (cmpAV v u) := by
  subst hv hu
  refine AC.of_J Try.func34 rfl Try.ntmps34 rfl fun w0 A0 => ?_
  refine J.seq ?_
  refine J.region_lit ?_
  refine JL.box_agg (.tmp rfl) rfl fun b2 => ?_
  refine JL.box_agg (.tmp rfl) rfl fun b3 => ?_
  refine JL.q rfl rfl rfl (QW.assign .const) ?_
  refine JL.q rfl rfl rfl (QW.assign .const) ?_
  refine JL.nil ?_
  refine thenQ.n ?_
  refine J.seq ?_
  refine J.region_lit ?_
  refine JL.q rfl rfl rfl (by first | exact QW.load_box 1 ty26 (.tmp rfl) rfl rfl rfl | exact QW.load_box 1 ty26 (.tmp rfl) rfl (take_at (V.cs_length _ _) rfl) (V.cs_length _ _)) ?_
  refine JL.q rfl rfl rfl (QW.call gofn25 (.cons (.tmp rfl) .nil) (rcheck_ok Vc.self hw)) ?_
  refine JL.q rfl rfl rfl (QW.assign (.tmp rfl)) ?_
  refine JL.nil ?_
  refine thenQ.n ?_
  refine J.seq ?_
  refine J.seq ?_
  refine J.region_lit ?_
  refine JL.q rfl rfl rfl (QW.move (.tmp rfl)) ?_
  refine JL.q rfl rfl rfl (QW.neq (.tmp rfl) .const) ?_
  refine JL.nil ?_
  refine thenQ.n ?_
  refine J.cond (.tmp rfl) (fun c1 => ?_) (fun c1 => ?_)
  · skip
    simp at c1
    refine J.seq ?_
    refine J.region_lit ?_
    refine JL.q rfl rfl rfl (QW.move (.tmp rfl)) ?_
    refine JL.q rfl rfl rfl (QW.assign .const) ?_
    refine JL.q rfl rfl rfl (QW.assign (.tmp rfl)) ?_
    refine JL.nil ?_
    refine thenQ.n ?_
    refine J.ret ?_
    refine thenQ.r ?_
    exact ⟨_, selP [.k, .k] _, _, RetEv.two rfl (REv.tmp rfl (.refl _)) (REv.tmp rfl (.refl _)), rfl, sel_perm [.k, .k] _, ⟨congrArg Res.ret (cmpAV_of (c := 0) (e := v.err) (by rw [V.cmp, if_pos c1])).symm, rfl⟩⟩
  · skip
    simp at c1
    have hf := V.fine_of c1
    refine J.skip ?_
    refine thenQ.n ?_
    refine J.seq ?_
    refine J.region_lit ?_
    refine JL.q rfl rfl rfl (by first | exact QW.load_box 0 ty26 (.tmp rfl) rfl rfl rfl | exact QW.load_box 0 ty26 (.tmp rfl) rfl (take_at (V.cs_length _ _) rfl) (V.cs_length _ _)) ?_
    refine JL.q rfl rfl rfl (QW.call gofn25 (.cons (.tmp rfl) .nil) (rcheck_ok Vc.self hw2)) ?_
    refine JL.q rfl rfl rfl (QW.assign (.tmp rfl)) ?_
    refine JL.nil ?_
    refine thenQ.n ?_
    refine J.seq ?_
    refine J.seq ?_
    refine J.region_lit ?_
    refine JL.q rfl rfl rfl (QW.move (.tmp rfl)) ?_
    refine JL.q rfl rfl rfl (QW.neq (.tmp rfl) .const) ?_
    refine JL.nil ?_
    refine thenQ.n ?_
    refine J.cond (.tmp rfl) (fun c2 => ?_) (fun c2 => ?_)
    · skip
      simp at c2
      refine J.seq ?_
      refine J.region_lit ?_
      refine JL.q rfl rfl rfl (QW.move (.tmp rfl)) ?_
      refine JL.q rfl rfl rfl (QW.assign .const) ?_
      refine JL.q rfl rfl rfl (QW.assign (.tmp rfl)) ?_
      refine JL.nil ?_
      refine thenQ.n ?_
      refine J.ret ?_
      refine thenQ.r ?_
      exact ⟨_, selP [.k, .k] _, _, RetEv.two rfl (REv.tmp rfl (.refl _)) (REv.tmp rfl (.refl _)), rfl, sel_perm [.k, .k] _, ⟨congrArg Res.ret (cmpAV_of (c := 0) (e := u.err) (by rw [V.cmp, if_neg (by simp [c1]), if_pos c2])).symm, rfl⟩⟩
    · skip
      simp at c2
      have hg := V.fine_of c2
      refine J.skip ?_
      refine thenQ.n ?_
      refine J.seq ?_
      refine J.region_lit ?_
      refine JL.q rfl rfl rfl (by first | exact QW.load_box 1 ty26 (.tmp rfl) rfl rfl rfl | exact QW.load_box 1 ty26 (.tmp rfl) rfl (take_at (V.cs_length _ _) rfl) (V.cs_length _ _)) ?_
      refine JL.q rfl rfl rfl (by first | exact QW.load_box 0 ty26 (.tmp rfl) rfl rfl rfl | exact QW.load_box 0 ty26 (.tmp rfl) rfl (take_at (V.cs_length _ _) rfl) (V.cs_length _ _)) ?_
      refine JL.q rfl rfl rfl (QW.call gofn83 (.cons (.tmp rfl) (.cons (.tmp rfl) .nil)) (rvorder_ok Vc.self Vc.self hw hw2 hf hg)) ?_
      refine JL.q rfl rfl rfl (QW.assign (.tmp rfl)) ?_
      refine JL.q rfl rfl rfl (QW.assign .const) ?_
      refine JL.nil ?_
      refine thenQ.n ?_
      refine J.ret ?_
      exact ⟨_, selP [.k, .k] _, _, RetEv.two rfl (REv.tmp rfl (.refl _)) (REv.tmp rfl (.refl _)), rfl, sel_perm [.k, .k] _, ⟨congrArg Res.ret (cmpAV_of (c := v.ord u) (e := 0) (by rw [V.cmp, if_neg (by simp [c1]), if_neg (by simp [c2])])).symm, rfl⟩⟩
theorem vone_ok {fr fr2 : Bool} {v u : V} {ys zs : List AV} (hv : Vc fr v ys) (hu : Vc fr2 u zs) (hw : v.wf) (hw2 : u.wf) : Fn Try.prog 35 [.agg ys, .agg zs] (.c (.bool (v.one u))) := by
  subst hv hu
  refine AC.of_J Try.func35 rfl Try.ntmps35 rfl fun w0 A0 => ?_
  refine J.seq ?_
  refine J.region_lit ?_
  refine JL.box_agg (.tmp rfl) rfl fun b2 => ?_
  refine JL.box_agg (.tmp rfl) rfl fun b3 => ?_
  refine JL.q rfl rfl rfl (QW.assign .const) ?_
  refine JL.nil ?_
  refine thenQ.n ?_
  refine J.seq ?_
  refine J.region_lit ?_
  refine JL.q rfl rfl rfl (by first | exact QW.load_box 1 ty26 (.tmp rfl) rfl rfl rfl | exact QW.load_box 1 ty26 (.tmp rfl) rfl (take_at (V.cs_length _ _) rfl) (V.cs_length _ _)) ?_
  refine JL.q rfl rfl rfl (by first | exact QW.load_box 0 ty26 (.tmp rfl) rfl rfl rfl | exact QW.load_box 0 ty26 (.tmp rfl) rfl (take_at (V.cs_length _ _) rfl) (V.cs_length _ _)) ?_
  refine JL.q rfl rfl rfl (QW.call gofn33 (.cons (.tmp rfl) (.cons (.tmp rfl) .nil)) (vcmp_ok Vc.self Vc.self hw hw2)) ?_
  refine JL.q rfl rfl rfl (QW.move (.tmp rfl)) ?_
  refine JL.q rfl rfl rfl (QW.extract (.tmp rfl) rfl) ?_
  refine JL.q rfl rfl rfl (QW.extract (.tmp rfl) rfl) ?_
  refine JL.q rfl rfl rfl (QW.assign (.tmp rfl)) ?_
  refine JL.q rfl rfl rfl (QW.assign (.tmp rfl)) ?_
  refine JL.nil ?_
  refine thenQ.n ?_
  refine J.seq ?_
  refine J.region_lit ?_
  refine JL.q rfl rfl rfl (QW.move (.tmp rfl)) ?_
  refine JL.q rfl rfl rfl (QW.eql (.tmp rfl) .const) ?_
  refine JL.q rfl rfl rfl (QW.move (.tmp rfl)) ?_
  refine JL.g rfl rfl rfl rfl rfl (fun hg => (QW.move (.tmp rfl))) ?_
  refine JL.g rfl rfl rfl rfl rfl (fun hg => (QW.eql (.when rfl hg) .const)) ?_
  refine JL.q rfl rfl rfl (QW.pick_and (.tmp rfl) (.tmp rfl)) ?_
  refine JL.q rfl rfl rfl (QW.assign (.tmp rfl)) ?_
  refine JL.nil ?_
  refine thenQ.n ?_
  refine J.ret ?_
  exact ⟨_, selP [.k, .k] _, _, RetEv.one rfl (REv.tmp rfl (.refl _)), rfl, sel_perm [.k, .k] _, ⟨by unfold V.one; rfl, rfl⟩⟩
theorem rvone_ok {fr fr2 : Bool} {v u : V} {ys zs : List AV} (hv : Vc fr v ys) (hu : Vc fr2 u zs) (hw : v.wf) (hw2 : u.wf) : Fn Try.prog 36 [.agg ys, .agg zs] (.c (.bool (v.one u))) := by
  subst hv hu
  refine AC.of_J Try.func36 rfl Try.ntmps36 rfl fun w0 A0 => ?_
  refine J.seq ?_
  refine J.region_lit ?_
  refine JL.box_agg (.tmp rfl) rfl fun b2 => ?_
  refine JL.box_agg (.tmp rfl) rfl fun b3 => ?_
  refine JL.q rfl rfl rfl (QW.assign .const) ?_
  refine JL.nil ?_
  refine thenQ.n ?_
  refine J.seq ?_
  refine J.region_lit ?_
  refine JL.q rfl rfl rfl (by first | exact QW.load_box 1 ty26 (.tmp rfl) rfl rfl rfl | exact QW.load_box 1 ty26 (.tmp rfl) rfl (take_at (V.cs_length _ _) rfl) (V.cs_length _ _)) ?_
  refine JL.q rfl rfl rfl (QW.call gofn25 (.cons (.tmp rfl) .nil) (rcheck_ok Vc.self hw)) ?_
  refine JL.q rfl rfl rfl (QW.eql (.tmp rfl) .const) ?_
  refine JL.q rfl rfl rfl (QW.move (.tmp rfl)) ?_
  refine JL.g rfl rfl rfl rfl rfl (fun hg => (by first | exact QW.load_box 0 ty26 (.tmp rfl) rfl rfl rfl | exact QW.load_box 0 ty26 (.tmp rfl) rfl (take_at (V.cs_length _ _) rfl) (V.cs_length _ _))) ?_
  refine JL.g rfl rfl rfl rfl rfl (fun hg => (QW.call gofn25 (.cons (.when rfl hg) .nil) (rcheck_ok Vc.self hw2))) ?_
  refine JL.g rfl rfl rfl rfl rfl (fun hg => (QW.eql (.when rfl hg) .const)) ?_
  refine JL.q rfl rfl rfl (QW.pick_and (.tmp rfl) (.tmp rfl)) ?_
  refine JL.q rfl rfl rfl (QW.move (.tmp rfl)) ?_
  refine JL.g rfl rfl rfl rfl rfl (fun hg => (by first | exact QW.load_box 1 ty26 (.tmp rfl) rfl rfl rfl | exact QW.load_box 1 ty26 (.tmp rfl) rfl (take_at (V.cs_length _ _) rfl) (V.cs_length _ _))) ?_
  refine JL.g rfl rfl rfl rfl rfl (fun hg => (by first | exact QW.load_box 0 ty26 (.tmp rfl) rfl rfl rfl | exact QW.load_box 0 ty26 (.tmp rfl) rfl (take_at (V.cs_length _ _) rfl) (V.cs_length _ _))) ?_
  refine JL.g rfl rfl rfl rfl rfl (fun hg => (QW.call gofn83 (.cons (.when rfl hg) (.cons (.when rfl hg) .nil)) (rvorder_ok Vc.self Vc.self hw hw2 (V.fine_of (by simp at hg; exact hg.1)) (V.fine_of (by simp at hg; exact hg.2))))) ?_
  refine JL.g rfl rfl rfl rfl rfl (fun hg => (QW.eql (.when rfl hg) .const)) ?_
  refine JL.q rfl rfl rfl (QW.pick_and (.tmp rfl) (.tmp rfl)) ?_
  refine JL.q rfl rfl rfl (QW.assign (.tmp rfl)) ?_
  refine JL.nil ?_
  refine thenQ.n ?_
  refine J.ret ?_
  exact ⟨_, selP [.k, .k] _, _, RetEv.one rfl (REv.tmp rfl (.refl _)), rfl, sel_perm [.k, .k] _, ⟨congrArg (fun b => Res.ret (.c (.bool b))) (by rw [Bool.eq_iff_iff]; unfold V.one V.cmp; by_cases h1 : v.err = 0 <;> by_cases h2 : u.err = 0 <;> simp [h1, h2]), rfl⟩⟩
theorem valueOrders_ok {v u : V} (hw : v.wf) (hw2 : u.wf) : Fn Try.prog 8 [.agg (v.cs false), .agg (u.cs false)] (.c (.bool true)) := by
  refine AC.of_J Try.func8 rfl Try.ntmps8 rfl fun w0 A0 => ?_
  refine J.seq ?_
  refine J.region_lit ?_
  refine JL.box_agg (.tmp rfl) rfl fun b2 => ?_
  refine JL.box_agg (.tmp rfl) rfl fun b3 => ?_
  refine JL.q rfl rfl rfl (QW.assign .const) ?_
  refine JL.nil ?_
  refine thenQ.n ?_
  refine J.seq ?_
  refine J.regionX mixed ?_
  refine JX.o 0 1 [] rfl rfl rfl rfl rfl rfl rfl rfl rfl (fun ow_ ho_ => (.q rfl (by first | exact QW.load_box 1 ty26 (.tmp rfl) ho_ rfl rfl | exact QW.load_box 1 ty26 (.tmp rfl) ho_ (take_at (V.cs_length _ _) rfl) (V.cs_length _ _)))) ?_
  refine JX.f 1 [11] rfl rfl rfl rfl rfl rfl rfl rfl (fun ow_ => (.q rfl (QW.call gofn20 (.cons (.tmp rfl) .nil) (copyValue_rd Vc.self hw)))) ?_
  refine JX.o 2 0 [] rfl rfl rfl rfl rfl rfl rfl rfl rfl (fun ow_ ho_ => (.q rfl (by first | exact QW.load_box 0 ty26 (.tmp rfl) ho_ rfl rfl | exact QW.load_box 0 ty26 (.tmp rfl) ho_ (take_at (V.cs_length _ _) rfl) (V.cs_length _ _)))) ?_
  refine JX.f 3 [13] rfl rfl rfl rfl rfl rfl rfl rfl (fun ow_ => (.q rfl (QW.call gofn20 (.cons (.tmp rfl) .nil) (copyValue_rd Vc.self hw2)))) ?_
  refine JX.a 4 rfl (AllocOp.mk z26 rfl) rfl rfl rfl rfl rfl ?_
  refine JX.a 5 rfl (AllocOp.mk z26 rfl) rfl rfl rfl rfl rfl ?_
  refine JX.one 6 [true, true, true, true, true, true] rfl (by kernel_rfl) (by kernel_rfl) rfl rfl (by kernel_rfl) rfl fun bs6_ pe_ ex_ => ?_
  refine JL.conv (by (try simp only [vlF, bxF, tkM, lvM, Flt.val, Flt.bx, List.append_assoc, List.take_succ_cons, List.take_zero, List.append_eq, id_eq, stepsO, List.map_cons, List.map_nil, valO, nthO, curO, mrg, List.reverse_cons, List.reverse_nil, List.nil_append, List.cons_append, List.append_nil, List.getElem?_cons_zero, List.getElem?_cons_succ, Option.map_some, Option.getD_some, List.set_cons_zero, List.set_cons_succ, AV.cellsOf, splice_zero, splice_succ, Nat.zero_add, Nat.reduceAdd]); rfl) ?_
  first | refine JL.store_boxF 3 ty26 (.tmp rfl) rfl (.tmp rfl) (by first | rfl | assumption) (rfl) (rfl) rfl ?_ | refine JL.store_boxF 3 ty26 (.tmp rfl) rfl (.tmp rfl) (by first | rfl | assumption) (rfl) (V.cs_length _ _) rfl ?_ | refine JL.store_boxF 3 ty26 (.tmp rfl) rfl (.tmp rfl) (by first | rfl | assumption) (V.cs_length _ _) (rfl) rfl ?_ | refine JL.store_boxF 3 ty26 (.tmp rfl) rfl (.tmp rfl) (by first | rfl | assumption) (V.cs_length _ _) (V.cs_length _ _) rfl ?_ | refine JL.store_box 3 ty26 (.tmp rfl) rfl (.tmp rfl) (by first | rfl | assumption) rfl rfl rfl rfl ?_ | refine JL.store_box 3 ty26 (.tmp rfl) rfl (.tmp rfl) (by first | rfl | assumption) (V.cs_length _ _) rfl rfl rfl ?_
  refine JL.nil ?_
  refine thenQ.n ⟨[], _, rfl, rfl, rfl, rfl, rfl, Reown.tkN 4 rfl, trivial, trivial, ?_⟩
  refine JX.conv (S' := [6, 5, 4, 3, 2, 1, 0]) rfl (by (try simp only [lvM]); rfl) (by (try simp only [vlF, bxF, tkM, lvM, Flt.val, Flt.bx, List.append_assoc, List.take_succ_cons, List.take_zero, List.append_eq, id_eq, stepsO, List.map_cons, List.map_nil, valO, nthO, curO, mrg, List.reverse_cons, List.reverse_nil, List.nil_append, List.cons_append, List.append_nil, List.getElem?_cons_zero, List.getElem?_cons_succ, Option.map_some, Option.getD_some, List.set_cons_zero, List.set_cons_succ, AV.cellsOf, splice_zero, splice_succ, Nat.zero_add, Nat.reduceAdd]); rfl) ?_
  refine JX.one 7 [] rfl (by kernel_rfl) (by kernel_rfl) rfl rfl (by kernel_rfl) rfl fun bs7_ pe_ ex_ => ?_
  refine JL.conv (by (try simp only [vlF, bxF, tkM, lvM, Flt.val, Flt.bx, List.append_assoc, List.take_succ_cons, List.take_zero, List.append_eq, id_eq, stepsO, List.map_cons, List.map_nil, valO, nthO, curO, mrg, List.reverse_cons, List.reverse_nil, List.nil_append, List.cons_append, List.append_nil, List.getElem?_cons_zero, List.getElem?_cons_succ, Option.map_some, Option.getD_some, List.set_cons_zero, List.set_cons_succ, AV.cellsOf, splice_zero, splice_succ, Nat.zero_add, Nat.reduceAdd]); rfl) ?_
  first | refine JL.store_boxF 2 ty26 (.tmp rfl) rfl (.tmp rfl) (by first | rfl | assumption) (rfl) (rfl) rfl ?_ | refine JL.store_boxF 2 ty26 (.tmp rfl) rfl (.tmp rfl) (by first | rfl | assumption) (rfl) (V.cs_length _ _) rfl ?_ | refine JL.store_boxF 2 ty26 (.tmp rfl) rfl (.tmp rfl) (by first | rfl | assumption) (V.cs_length _ _) (rfl) rfl ?_ | refine JL.store_boxF 2 ty26 (.tmp rfl) rfl (.tmp rfl) (by first | rfl | assumption) (V.cs_length _ _) (V.cs_length _ _) rfl ?_ | refine JL.store_box 2 ty26 (.tmp rfl) rfl (.tmp rfl) (by first | rfl | assumption) rfl rfl rfl rfl ?_ | refine JL.store_box 2 ty26 (.tmp rfl) rfl (.tmp rfl) (by first | rfl | assumption) (V.cs_length _ _) rfl rfl rfl ?_
  refine JL.nil ?_
  refine thenQ.n ⟨[], _, rfl, rfl, rfl, rfl, rfl, Reown.tkN 4 rfl, trivial, trivial, ?_⟩
  refine JX.conv (S' := [7, 6, 5, 4, 3, 2, 1, 0]) rfl (by (try simp only [lvM]); rfl) (by (try simp only [vlF, bxF, tkM, lvM, Flt.val, Flt.bx, List.append_assoc, List.take_succ_cons, List.take_zero, List.append_eq, id_eq, stepsO, List.map_cons, List.map_nil, valO, nthO, curO, mrg, List.reverse_cons, List.reverse_nil, List.nil_append, List.cons_append, List.append_nil, List.getElem?_cons_zero, List.getElem?_cons_succ, Option.map_some, Option.getD_some, List.set_cons_zero, List.set_cons_succ, AV.cellsOf, splice_zero, splice_succ, Nat.zero_add, Nat.reduceAdd]); rfl) ?_
  refine JX.fin (by kernel_rfl) (by kernel_rfl) fun bs_ => ?_
  refine QX.conv (by (try simp only [vlF, bxF, tkM, lvM, Flt.val, Flt.bx, List.append_assoc, List.take_succ_cons, List.take_zero, List.append_eq, id_eq, stepsO, List.map_cons, List.map_nil, valO, nthO, curO, mrg, List.reverse_cons, List.reverse_nil, List.nil_append, List.cons_append, List.append_nil, List.getElem?_cons_zero, List.getElem?_cons_succ, Option.map_some, Option.getD_some, List.set_cons_zero, List.set_cons_succ, AV.cellsOf, splice_zero, splice_succ, Nat.zero_add, Nat.reduceAdd]); rfl) ?_
  refine thenQ.n ?_
  refine J.seq ?_
  refine J.region_lit ?_
  refine JL.q rfl rfl rfl (by first | exact QW.load_box 3 ty26 (.tmp rfl) rfl rfl rfl | exact QW.load_box 3 ty26 (.tmp rfl) rfl (take_at (V.cs_length _ _) rfl) (V.cs_length _ _)) ?_
  refine JL.q rfl rfl rfl (by first | exact QW.load_box 2 ty26 (.tmp rfl) rfl rfl rfl | exact QW.load_box 2 ty26 (.tmp rfl) rfl (take_at (V.cs_length _ _) rfl) (V.cs_length _ _)) ?_
  refine JL.q rfl rfl rfl (QW.call gofn33 (.cons (.tmp rfl) (.cons (.tmp rfl) .nil)) (vcmp_ok Vc.self Vc.self (by assumption) (by assumption))) ?_
  refine JL.q rfl rfl rfl (QW.move (.tmp rfl)) ?_
  refine JL.q rfl rfl rfl (QW.extract (.tmp rfl) rfl) ?_
  refine JL.q rfl rfl rfl (QW.extract (.tmp rfl) rfl) ?_
  refine JL.q rfl rfl rfl (QW.assign (.tmp rfl)) ?_
  refine JL.q rfl rfl rfl (QW.assign (.tmp rfl)) ?_
  refine JL.nil ?_
  refine thenQ.n ?_
  refine J.seq ?_
  refine J.region_lit ?_
  refine JL.q rfl rfl rfl (by first | exact QW.load_box 1 ty26 (.tmp rfl) rfl rfl rfl | exact QW.load_box 1 ty26 (.tmp rfl) rfl (take_at (V.cs_length _ _) rfl) (V.cs_length _ _)) ?_
  refine JL.q rfl rfl rfl (by first | exact QW.load_box 0 ty26 (.tmp rfl) rfl rfl rfl | exact QW.load_box 0 ty26 (.tmp rfl) rfl (take_at (V.cs_length _ _) rfl) (V.cs_length _ _)) ?_
  refine JL.q rfl rfl rfl (QW.call gofn34 (.cons (.tmp rfl) (.cons (.tmp rfl) .nil)) (rvcmp_ok Vc.self Vc.self (by assumption) (by assumption))) ?_
  refine JL.q rfl rfl rfl (QW.move (.tmp rfl)) ?_
  refine JL.q rfl rfl rfl (QW.extract (.tmp rfl) rfl) ?_
  refine JL.q rfl rfl rfl (QW.extract (.tmp rfl) rfl) ?_
  refine JL.q rfl rfl rfl (QW.assign (.tmp rfl)) ?_
  refine JL.q rfl rfl rfl (QW.assign (.tmp rfl)) ?_
  refine JL.nil ?_
  refine thenQ.n ?_
  refine J.seq ?_
  refine J.regionX mixed ?_
  refine JX.o 0 3 [] rfl rfl rfl rfl rfl rfl rfl rfl rfl (fun ow_ ho_ => (.q rfl (by first | exact QW.load_box 3 ty26 (.tmp rfl) ho_ rfl rfl | exact QW.load_box 3 ty26 (.tmp rfl) ho_ (take_at (V.cs_length _ _) rfl) (V.cs_length _ _)))) ?_
  refine JX.o 1 2 [] rfl rfl rfl rfl rfl rfl rfl rfl rfl (fun ow_ ho_ => (.q rfl (by first | exact QW.load_box 2 ty26 (.tmp rfl) ho_ rfl rfl | exact QW.load_box 2 ty26 (.tmp rfl) ho_ (take_at (V.cs_length _ _) rfl) (V.cs_length _ _)))) ?_
  refine JX.f 2 [27, 28] rfl rfl rfl rfl rfl rfl rfl rfl (fun ow_ => (.q rfl (QW.call gofn35 (.cons (.tmp rfl) (.cons (.tmp rfl) .nil)) (vone_ok Vc.self Vc.self (by assumption) (by assumption))))) ?_
  refine JX.o 3 1 [] rfl rfl rfl rfl rfl rfl rfl rfl rfl (fun ow_ ho_ => (.q rfl (by first | exact QW.load_box 1 ty26 (.tmp rfl) ho_ rfl rfl | exact QW.load_box 1 ty26 (.tmp rfl) ho_ (take_at (V.cs_length _ _) rfl) (V.cs_length _ _)))) ?_
  refine JX.o 4 0 [] rfl rfl rfl rfl rfl rfl rfl rfl rfl (fun ow_ ho_ => (.q rfl (by first | exact QW.load_box 0 ty26 (.tmp rfl) ho_ rfl rfl | exact QW.load_box 0 ty26 (.tmp rfl) ho_ (take_at (V.cs_length _ _) rfl) (V.cs_length _ _)))) ?_
  refine JX.f 5 [30, 31] rfl rfl rfl rfl rfl rfl rfl rfl (fun ow_ => (.q rfl (QW.call gofn36 (.cons (.tmp rfl) (.cons (.tmp rfl) .nil)) (rvone_ok Vc.self Vc.self (by assumption) (by assumption))))) ?_
  refine JX.f 6 [29, 32] rfl rfl rfl rfl rfl rfl rfl rfl (fun ow_ => (.q rfl (QW.eql_b bo4 (.tmp rfl) (.tmp rfl)))) ?_
  refine JX.f 7 [33] rfl rfl rfl rfl rfl rfl rfl rfl (fun ow_ => (.q rfl (QW.move (.tmp rfl)))) ?_
  refine JX.f 8 [34] rfl rfl rfl rfl rfl rfl rfl rfl (fun ow_ => (.g rfl rfl rfl (fun hg => (QW.move (.tmp rfl))))) ?_
  refine JX.f 9 [34] rfl rfl rfl rfl rfl rfl rfl rfl (fun ow_ => (.g rfl rfl rfl (fun hg => (QW.move (.tmp rfl))))) ?_
  refine JX.f 10 [35, 36, 34] rfl rfl rfl rfl rfl rfl rfl rfl (fun ow_ => (.g rfl rfl rfl (fun hg => (QW.eql (.when rfl hg) (.when rfl hg))))) ?_
  refine JX.f 11 [34, 37] rfl rfl rfl rfl rfl rfl rfl rfl (fun ow_ => (.q rfl (QW.pick_and (.tmp rfl) (.tmp rfl)))) ?_
  refine JX.f 12 [38] rfl rfl rfl rfl rfl rfl rfl rfl (fun ow_ => (.q rfl (QW.move (.tmp rfl)))) ?_
  refine JX.f 13 [39] rfl rfl rfl rfl rfl rfl rfl rfl (fun ow_ => (.g rfl rfl rfl (fun hg => (QW.move (.tmp rfl))))) ?_
  refine JX.f 14 [40, 39] rfl rfl rfl rfl rfl rfl rfl rfl (fun ow_ => (.g rfl rfl rfl (fun hg => (QW.call gofn23 (.cons (.when rfl hg) .nil) (num02_ok _))))) ?_
  refine JX.f 15 [39] rfl rfl rfl rfl rfl rfl rfl rfl (fun ow_ => (.g rfl rfl rfl (fun hg => (QW.move (.tmp rfl))))) ?_
  refine JX.f 16 [41, 42, 39] rfl rfl rfl rfl rfl rfl rfl rfl (fun ow_ => (.g rfl rfl rfl (fun hg => (QW.eql (.when rfl hg) (.when rfl hg))))) ?_
  refine JX.f 17 [39, 43] rfl rfl rfl rfl rfl rfl rfl rfl (fun ow_ => (.q rfl (QW.pick_and (.tmp rfl) (.tmp rfl)))) ?_
  refine JX.f 18 [44] rfl rfl rfl rfl rfl rfl rfl rfl (fun ow_ => (.q rfl (QW.move (.tmp rfl)))) ?_
  refine JX.o 19 3 [45] rfl rfl rfl rfl rfl rfl rfl rfl rfl (fun ow_ ho_ => (.g rfl rfl rfl (fun hg => (by first | exact QW.load_box 3 ty26 (.tmp rfl) ho_ rfl rfl | exact QW.load_box 3 ty26 (.tmp rfl) ho_ (take_at (V.cs_length _ _) rfl) (V.cs_length _ _))))) ?_
  refine JX.o 20 1 [45] rfl rfl rfl rfl rfl rfl rfl rfl rfl (fun ow_ ho_ => (.g rfl rfl rfl (fun hg => (by first | exact QW.load_box 1 ty26 (.tmp rfl) ho_ rfl rfl | exact QW.load_box 1 ty26 (.tmp rfl) ho_ (take_at (V.cs_length _ _) rfl) (V.cs_length _ _))))) ?_
  refine JX.f 21 [46, 47, 45] rfl rfl rfl rfl rfl rfl rfl rfl (fun ow_ => (.g rfl rfl rfl (fun hg => (QW.call gofn26 (.cons (.when rfl hg) (.cons (.when rfl hg) .nil)) (sameValue_ok Vc.self Vc.self (by assumption) (by assumption)))))) ?_
  refine JX.f 22 [45, 48] rfl rfl rfl rfl rfl rfl rfl rfl (fun ow_ => (.q rfl (QW.pick_and (.tmp rfl) (.tmp rfl)))) ?_
  refine JX.f 23 [49] rfl rfl rfl rfl rfl rfl rfl rfl (fun ow_ => (.q rfl (QW.move (.tmp rfl)))) ?_
  refine JX.o 24 2 [50] rfl rfl rfl rfl rfl rfl rfl rfl rfl (fun ow_ ho_ => (.g rfl rfl rfl (fun hg => (by first | exact QW.load_box 2 ty26 (.tmp rfl) ho_ rfl rfl | exact QW.load_box 2 ty26 (.tmp rfl) ho_ (take_at (V.cs_length _ _) rfl) (V.cs_length _ _))))) ?_
  refine JX.o 25 0 [50] rfl rfl rfl rfl rfl rfl rfl rfl rfl (fun ow_ ho_ => (.g rfl rfl rfl (fun hg => (by first | exact QW.load_box 0 ty26 (.tmp rfl) ho_ rfl rfl | exact QW.load_box 0 ty26 (.tmp rfl) ho_ (take_at (V.cs_length _ _) rfl) (V.cs_length _ _))))) ?_
  refine JX.f 26 [51, 52, 50] rfl rfl rfl rfl rfl rfl rfl rfl (fun ow_ => (.g rfl rfl rfl (fun hg => (QW.call gofn26 (.cons (.when rfl hg) (.cons (.when rfl hg) .nil)) (sameValue_ok Vc.self Vc.self (by assumption) (by assumption)))))) ?_
  refine JX.f 27 [50, 53] rfl rfl rfl rfl rfl rfl rfl rfl (fun ow_ => (.q rfl (QW.pick_and (.tmp rfl) (.tmp rfl)))) ?_
  refine JX.f 28 [54] rfl rfl rfl rfl rfl rfl rfl rfl (fun ow_ => (.q rfl (QW.move (.tmp rfl)))) ?_
  refine JX.f 29 [55] rfl rfl rfl rfl rfl rfl rfl rfl (fun ow_ => (.g rfl rfl rfl (fun hg => (QW.call gofn27 .nil (alive02_ok))))) ?_
  refine JX.f 30 [55, 56] rfl rfl rfl rfl rfl rfl rfl rfl (fun ow_ => (.q rfl (QW.pick_and (.tmp rfl) (.tmp rfl)))) ?_
  refine JX.f 31 [57] rfl rfl rfl rfl rfl rfl rfl rfl (fun ow_ => (.q rfl (QW.assign (.tmp rfl)))) ?_
  refine JX.fin (by kernel_rfl) (by kernel_rfl) fun bs_ => ?_
  refine QX.conv (by (try simp only [vlF, bxF, tkM, lvM, Flt.val, Flt.bx, List.append_assoc, List.take_succ_cons, List.take_zero, List.append_eq, id_eq, stepsO, List.map_cons, List.map_nil, valO, nthO, curO, mrg, List.reverse_cons, List.reverse_nil, List.nil_append, List.cons_append, List.append_nil, List.getElem?_cons_zero, List.getElem?_cons_succ, Option.map_some, Option.getD_some, List.set_cons_zero, List.set_cons_succ, AV.cellsOf, splice_zero, splice_succ, Nat.zero_add, Nat.reduceAdd]); rfl) ?_
  refine thenQ.n ?_
  refine J.ret ?_
  exact ⟨_, selP [.k, .k, .k, .k] _, _, RetEv.one rfl (REv.tmp rfl (.refl _)), rfl, sel_perm [.k, .k, .k, .k] _, ⟨ret_b (by simp [V.same_refl]), rfl⟩⟩
end Go.Proofs.Ytkiankpmkglhcaa.J

