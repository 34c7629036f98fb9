/- Texts of this proof, laid together. -/
import Derived.Test.YtjhonjdhanlbkaaGreatX4REvalOwn
set_option linter.unusedVariables false
set_option linter.unusedSimpArgs false
/- Walks: the page's order of values. -/
namespace Go.Proofs.YtjhonjdhanlbkaaGreat.J
open Go Go.RowKit
set_option maxRecDepth 10000
set_option maxHeartbeats 4000000
theorem orI_r (a : Int) : orI a 0 = a := by unfold orI; split <;> omega
theorem cmpI_self (a : Int) : cmpI a a = 0 := cmpI_zero.2 rfl
theorem cmpS_self (a : Str) : cmpS a a = 0 := cmpS_zero.2 rfl
def numI (a b : Bool) : Int := if a = true then -1 else if b = true then 0 else 1
theorem numI_int (x y : Int) : numI (decide (x < y)) (x == y) = cmpI x y := by
  unfold numI cmpI
  by_cases h : x < y
  · simp [h]
  · by_cases h2 : x = y
    · simp [h2]
    · simp [h, h2]; omega
theorem numI_ne {x y : Int} (h : x ≠ y) : numI (decide (x < y)) false = cmpI x y := by
  rw [← numI_int]; congr 1; simp [h]
theorem numI_str (x y : Str) : numI (Op.bytesLess x y) (x == y) = cmpS x y := by
  unfold numI cmpS
  rcases less_tri x y with k | k | k
  · simp [k]
  · subst k; simp [less_irr]
  · have : x ≠ y := fun h => by subst h; rw [less_irr] at k; cases k
    simp [k, less_asym k, this]
theorem numI_sne {x y : Str} (h : x ≠ y) : numI (Op.bytesLess x y) false = cmpS x y := by
  rw [← numI_str]; congr 1; simp [h]
section
variable {k : Int} {b b' : Nat} {t t' : Str} {ks ks' : List Str} {is is' : List V}
theorem ord_num (hp : partOk (.mk k b t ks is) = true) (hq : partOk (.mk k b' t' ks' is') = true) (h : k = 1 ∨ k = 2) : V.ord (.mk k b t ks is) (.mk k b' t' ks' is') = cmpI (V.numb k b) (V.numb k b') := by
  have hb : ∀ {b t ks is}, partOk (.mk k b t ks is) = true → t = [] ∧ ks = [] ∧ is = [] := by
    intro b t ks is g
    rcases h with rfl | rfl <;> simp [partOk] at g <;> exact ⟨g.1.1.2, g.1.2, g.2⟩
  obtain ⟨rfl, rfl, rfl⟩ := hb hp
  obtain ⟨rfl, rfl, rfl⟩ := hb hq
  simp only [V.ord, cmpI_self, cmpS_self, cmpK, V.ords, orI_z, orI_r]
theorem ord_text (hp : partOk (.mk 3 b t ks is) = true) (hq : partOk (.mk 3 b' t' ks' is') = true) : V.ord (.mk 3 b t ks is) (.mk 3 b' t' ks' is') = cmpS t t' := by
  simp [partOk] at hp hq
  obtain ⟨⟨⟨rfl, -⟩, rfl⟩, rfl⟩ := hp
  obtain ⟨⟨⟨rfl, -⟩, rfl⟩, rfl⟩ := hq
  simp only [V.ord, cmpI_self, cmpK, V.ords, orI_z, orI_r]
theorem ord_list (hp : partOk (.mk k b t ks is) = true) (hq : partOk (.mk k b' t' ks' is') = true) (h1 : k ≠ 1) (h2 : k ≠ 2) (h3 : k ≠ 3) : V.ord (.mk k b t ks is) (.mk k b' t' ks' is') = orI (cmpK ks ks') (V.ords is is') := by
  have hb : ∀ {b t ks is}, partOk (.mk k b t ks is) = true → b = 0 ∧ t = [] := by
    intro b t ks is h
    simp only [partOk, if_neg h1, if_neg h2, if_neg h3] at h
    (repeat' split at h) <;> simp at h <;> simp [h]
  obtain ⟨rfl, rfl⟩ := hb hp
  obtain ⟨rfl, rfl⟩ := hb hq
  simp only [V.ord, cmpI_self, cmpS_self, orI_z]
end
theorem number02_ok (a b : Bool) : Fn Tryz.prog 136 [.c (.bool a), .c (.bool b)] (.c (.int .i64 (numI a b))) := by
  refine AC.of_J Tryz.func136 rfl Tryz.ntmps136 rfl fun w0 A0 => ?_
  refine Zs (Zq rfl (QW.assign .const) (Zn (J.seq (J.block (Zs (Zq rfl (QW.move (.tmp rfl)) (Zq rfl (QW.assign (.tmp rfl)) (Zn ?_))))))))
  refine J.cond (.tmp rfl) (fun c1 => ?_) (fun c1 => ?_)
  · skip
    skip
    exact Zs (Zq rfl (QW.assign .const) (Zn (J.ret (blkQ.r (thenQ.r (Zr [] (RetEv.one rfl (REv.tmp rfl lr)) rfl ⟨by simp [numI, *], rfl⟩))))))
  skip
  refine Zs (Zq rfl (QW.move (.tmp rfl)) (Zq rfl (QW.assign (.tmp rfl)) (Zn ?_)))
  refine J.cond (.tmp rfl) (fun c2 => ?_) (fun c2 => ?_)
  · skip
    exact Zs (Zq rfl (QW.assign .const) (Zn (J.ret (blkQ.r (thenQ.r (Zr [] (RetEv.one rfl (REv.tmp rfl lr)) rfl ⟨by simp [numI, *], rfl⟩))))))
  exact J.skip (blkQ.n (thenQ.n (Zs (Zq rfl (QW.assign .const) (Zn (J.ret (Zr [] (RetEv.one rfl (REv.tmp rfl lr)) rfl ⟨by simp [numI, *], rfl⟩)))))))
theorem rvorder_n  : ∀ (n : Nat) {v u : V} {ys zs : List AV} {fr fr2 : Bool}, Vc fr v ys → Vc fr2 u zs → v.wf → u.wf → v.Fine → u.Fine → v.sz ≤ n →
    Fn Tryz.prog 109 [.agg ys, .agg zs] (.c (.int .i64 (v.ord u))) := by
  intro n
  induction n with
  | zero => intro v u ys zs fr fr2 hv hu hw hw2 hf hg h; exact absurd h (by have := V.sz_pos v; omega)
  | succ n ih =>
    intro v u ys zs fr fr2 hv hu hw hw2 hf hg hn
    obtain ⟨k, b, t, ks, is⟩ := v
    obtain ⟨k', b', t', ks', is'⟩ := u
    subst hv hu
    obtain ⟨-, hb, -, hk16, hi80, -, hwi⟩ := hw.inv
    obtain ⟨-, hb2, -, hk16', hi80', -, hwi'⟩ := hw2.inv
    have h1 : is.length ≤ 8796093022208 := by unfold reach at hi80; omega
    have h2 : is'.length ≤ 8796093022208 := by unfold reach at hi80'; omega
    have h3 : ks.length ≤ 8796093022208 := by unfold reach at hk16; omega
    have h4 : ks'.length ≤ 8796093022208 := by unfold reach at hk16'; omega
    refine AC.of_J Tryz.func109 rfl Tryz.ntmps109 rfl fun w0 A0 => ?_
    refine Zs (JL.box_agg (.tmp rfl) rfl fun b2 => JL.box_agg (.tmp rfl) rfl fun b3 => Zq rfl (QW.assign .const) (Zn (J.seq (Zs (Zq rfl (QW.field_ptr fo29_0 (.tmp rfl) rfl) (Zq rfl (QW.load_box1 1 ty3 (.tmp rfl) rfl rfl) (Zq rfl (QW.field_ptr fo29_0 (.tmp rfl) rfl) ?_)))))))
    refine Zq rfl (QW.load_box1 0 ty3 (.tmp rfl) rfl rfl) (Zq rfl (QW.neq (.tmp rfl) (.tmp rfl)) (Zn ?_))
    refine J.cond (.tmp rfl) (fun c1 => ?_) (fun c1 => ?_)
    · skip
      have hz : k ≠ k' := by simpa using c1
      refine Zs (Zq rfl (QW.field_ptr fo29_0 (.tmp rfl) rfl) (Zq rfl (QW.load_box1 1 ty3 (.tmp rfl) rfl rfl) (Zq rfl (QW.field_ptr fo29_0 (.tmp rfl) rfl) (Zq rfl (QW.load_box1 0 ty3 (.tmp rfl) rfl rfl) (Zq rfl (QW.lss (.tmp rfl) (.tmp rfl)) (Zq rfl (QW.call gofn136 (.cons (.tmp rfl) (.cons .const .nil)) (number02_ok _ _)) (Zq rfl (QW.assign (.tmp rfl)) (Zn (J.ret ?_)))))))))
      exact thenQ.r (Zr [.k, .k] (RetEv.one rfl (REv.tmp rfl lr)) rfl ⟨by simp only [V.ord]; rw [numI_ne hz, orI_n (fun h => hz (cmpI_zero.1 h))], rfl⟩)
    obtain rfl : k = k' := by simpa using c1
    have hp := hf.part
    have hq := hg.part
    refine Zk (J.seq (Zs (Zq rfl (QW.field_ptr fo29_0 (.tmp rfl) rfl) (Zq rfl (QW.load_box1 1 ty3 (.tmp rfl) rfl rfl) (Zn (J.block (Zs (Zq rfl (QW.eql (.tmp rfl) .const) (Zq rfl (QW.assign (.tmp rfl)) ?_)))))))))
    refine Zn ?_
    refine J.cond (.tmp rfl) (fun c2 => ?_) (fun c2 => ?_)
    · skip
      obtain rfl : k = 1 := by simpa using c2
      refine Zs (Zq rfl (QW.field_ptr fo29_1 (.tmp rfl) rfl) (Zq rfl (QW.load_box1 1 ty22 (.tmp rfl) rfl rfl) (Zq rfl (QW.field_ptr fo29_1 (.tmp rfl) rfl) (Zq rfl (QW.load_box1 0 ty22 (.tmp rfl) rfl rfl) (Zq rfl (QW.lss (.tmp rfl) (.tmp rfl)) (Zq rfl (QW.field_ptr fo29_1 (.tmp rfl) rfl) (Zq rfl (QW.load_box1 1 ty22 (.tmp rfl) rfl rfl) (Zq rfl (QW.field_ptr fo29_1 (.tmp rfl) rfl) (Zq rfl (QW.load_box1 0 ty22 (.tmp rfl) rfl rfl) ?_)))))))))
      exact Zq rfl (QW.eql (.tmp rfl) (.tmp rfl)) (Zq rfl (QW.call gofn136 (.cons (.tmp rfl) (.cons (.tmp rfl) .nil)) (number02_ok _ _)) (Zq rfl (QW.assign (.tmp rfl)) (Zn (J.ret (blkQ.r (thenQ.r (Zr [.k, .k] (RetEv.one rfl (REv.tmp rfl lr)) rfl ⟨by rw [ord_num hp hq (.inl rfl), numI_int]; rfl, rfl⟩)))))))
    have hn1 : k ≠ 1 := by simpa using c2
    refine Zs (Zq rfl (QW.eql (.tmp rfl) .const) (Zq rfl (QW.assign (.tmp rfl)) (Zn ?_)))
    refine J.cond (.tmp rfl) (fun c3 => ?_) (fun c3 => ?_)
    · skip
      obtain rfl : k = 2 := by simpa using c3
      refine J.seq (J.regionX mixed (Zf 0 [] rfl (fun _ => QW.field_ptr fo29_1 (.tmp rfl) rfl) (Zo 1 1 [38] rfl (fun _ ho_ => QW.load_box1 1 ty22 (.tmp rfl) ho_ rfl) (Zf 2 [39] rfl (fun _ => QW.call gofn137 (.cons (.tmp rfl) .nil) (rorder_ok _ (by assumption))) ?_))))
      refine Zf 3 [] rfl (fun _ => QW.field_ptr fo29_1 (.tmp rfl) rfl) (Zo 4 0 [41] rfl (fun _ ho_ => QW.load_box1 0 ty22 (.tmp rfl) ho_ rfl) (Zf 5 [42] rfl (fun _ => QW.call gofn137 (.cons (.tmp rfl) .nil) (rorder_ok _ (by assumption))) ?_))
      refine Zf 6 [40] rfl (fun _ => QW.assign (.tmp rfl)) (Zf 7 [43] rfl (fun _ => QW.assign (.tmp rfl)) (JX.fin (by kernel_rfl) (by kernel_rfl) fun bs_ => ?_))
      refine QX.conv (by (try simp only [vlF, bxF, tkM, lvM, Flt.val, Flt.bx, nx, nl, stepsO, valO, nthO, curO, mrg, AV.cellsOf, splice_zero, splice_succ, Nat.reduceAdd]); rfl) ?_
      refine thenQ.n (Zs (Zq rfl (QW.move (.tmp rfl)) (Zq rfl (QW.move (.tmp rfl)) (Zq rfl (QW.lss (.tmp rfl) (.tmp rfl)) (Zq rfl (QW.move (.tmp rfl)) (Zq rfl (QW.move (.tmp rfl)) (Zq rfl (QW.eql (.tmp rfl) (.tmp rfl)) (Zq rfl (QW.call gofn136 (.cons (.tmp rfl) (.cons (.tmp rfl) .nil)) (number02_ok _ _)) (Zq rfl (QW.assign (.tmp rfl)) ?_)))))))))
      exact Zn (J.ret (blkQ.r (thenQ.r (Zr [.k, .k] (RetEv.one rfl (REv.tmp rfl lr)) rfl ⟨by rw [ord_num hp hq (.inr rfl), numI_int]; rfl, rfl⟩))))
    have hn2 : k ≠ 2 := by simpa using c3
    refine Zs (Zq rfl (QW.eql (.tmp rfl) .const) (Zq rfl (QW.assign (.tmp rfl)) (Zn ?_)))
    refine J.cond (.tmp rfl) (fun c4 => ?_) (fun c4 => ?_)
    · skip
      obtain rfl : k = 3 := by simpa using c4
      refine Zs (Zq rfl (QW.field_ptr fo29_2 (.tmp rfl) rfl) (Zq rfl (QW.load_box1 1 ty9 (.tmp rfl) rfl rfl) (Zq rfl (QW.field_ptr fo29_2 (.tmp rfl) rfl) (Zq rfl (QW.load_box1 0 ty9 (.tmp rfl) rfl rfl) (Zq rfl (QW.lss_s (.tmp rfl) (.tmp rfl)) (Zq rfl (QW.field_ptr fo29_2 (.tmp rfl) rfl) (Zq rfl (QW.load_box1 1 ty9 (.tmp rfl) rfl rfl) (Zq rfl (QW.field_ptr fo29_2 (.tmp rfl) rfl) (Zq rfl (QW.load_box1 0 ty9 (.tmp rfl) rfl rfl) ?_)))))))))
      exact Zq rfl (QW.eql_s (.tmp rfl) (.tmp rfl)) (Zq rfl (QW.call gofn136 (.cons (.tmp rfl) (.cons (.tmp rfl) .nil)) (number02_ok _ _)) (Zq rfl (QW.assign (.tmp rfl)) (Zn (J.ret (blkQ.r (thenQ.r (Zr [.k, .k] (RetEv.one rfl (REv.tmp rfl lr)) rfl ⟨by rw [ord_text hp hq, numI_str], rfl⟩)))))))
    have hn3 : k ≠ 3 := by simpa using c4
    have hord := ord_list hp hq hn1 hn2 hn3
    refine J.skip (blkQ.n (thenQ.n (J.seq (Zs (Zq rfl (QW.assign .const) (Zn (J.block (J.loopK (ι := Nat) [2, 3] (fun i => [(7, .c (.int .i64 (i : Int)))]) (fun _ oo => oo) (fun i => i ≤ ks.length ∧ i ≤ ks'.length ∧ cmpK ks ks' = cmpK (ks.drop i) (ks'.drop i)) (fun i => ks.length - i) 0 (⟨Nat.zero_le _, Nat.zero_le _, rfl⟩) (Wk.re (.cons rfl lr (.cons rfl lr (.cons rfl lr .nil))) (Reown.refl _) (fun _ h => by first | exact h | simp [h])) ?_))))))))
    intro i ⟨hk, hk2, hs⟩
    refine J.conv (by (try simp only [nl, stepsO, valO, nthO, curO, mrg, AV.cellsOf, splice_zero, splice_succ, Nat.reduceAdd]); rfl) ?_
    refine J.seq (Zs (Zq rfl (QW.move (.tmp rfl)) (Zq rfl (QW.field_ptr fo29_3 (.tmp rfl) rfl) (Zq rfl (QW.load_box1 1 ty26 (.tmp rfl) rfl rfl) (Zq rfl (QW.len_slE sl26 (.tmp rfl) (keysAV_length _)) (Zq rfl (QW.lss (.tmp rfl) (.tmp rfl)) (Zq rfl (QW.move (.tmp rfl)) (Zg rfl (fun hg => (QW.move (.tmp rfl))) (Zg rfl (fun hg => (QW.field_ptr fo29_3 (.tmp rfl) rfl)) ?_)))))))))
    refine Zg rfl (fun hg => (QW.load_box1 0 ty26 (.when rfl hg) rfl rfl)) (Zg rfl (fun hg => (QW.len_slE sl26 (.when rfl hg) (keysAV_length _))) (Zg rfl (fun hg => (QW.lss (.when rfl hg) (.when rfl hg))) (Zq rfl (QW.pick_and (.tmp rfl) (.tmp rfl)) (Zn ?_))))
    refine J.cond (.tmp rfl) (fun c5 => ?_) (fun c5 => ?_)
    · skip
      have hlt : i < ks.length := by (simp at c5; omega)
      have hlt2 : i < ks'.length := by (simp at c5; omega)
      refine Zk (J.seq (J.block (J.seq (J.regionX mixed (Zf 0 [] rfl (fun _ => QW.field_ptr fo29_3 (.tmp rfl) rfl) (Zo 1 1 [78] rfl (fun _ ho_ => QW.load_box1 1 ty26 (.tmp rfl) ho_ rfl) (Zf 2 [] rfl (fun _ => QW.move (.tmp rfl)) (Zf 3 [79, 80] rfl (fun _ => QW.index_sl sl26 ty9 rfl (.tmp rfl) (.tmp rfl) rfl (keysAV_getE hlt)) (Zf 4 [81] rfl (fun _ => QW.load_ref1 ty9 (.tmp rfl) rfl) ?_)))))))))
      refine Zf 5 [] rfl (fun _ => QW.field_ptr fo29_3 (.tmp rfl) rfl) (Zo 6 0 [83] rfl (fun _ ho_ => QW.load_box1 0 ty26 (.tmp rfl) ho_ rfl) (Zf 7 [] rfl (fun _ => QW.move (.tmp rfl)) (Zf 8 [84, 85] rfl (fun _ => QW.index_sl sl26 ty9 rfl (.tmp rfl) (.tmp rfl) rfl (keysAV_getE hlt2)) (Zf 9 [86] rfl (fun _ => QW.load_ref1 ty9 (.tmp rfl) rfl) (Zf 10 [82, 87] rfl (fun _ => QW.neq_s (.tmp rfl) (.tmp rfl)) (JX.fin (by kernel_rfl) (by kernel_rfl) fun bs_ => ?_))))))
      refine QX.conv (by (try simp only [vlF, bxF, tkM, lvM, Flt.val, Flt.bx, nx, nl, stepsO, valO, nthO, curO, mrg, AV.cellsOf, splice_zero, splice_succ, Nat.reduceAdd]); rfl) ?_
      refine thenQ.n ?_
      refine J.cond (.tmp rfl) (fun c6 => ?_) (fun c6 => ?_)
      · skip
        have hz : ks[i] ≠ ks'[i] := by simpa using c6
        refine J.seq (J.regionX mixed (Zf 0 [] rfl (fun _ => QW.field_ptr fo29_3 (.tmp rfl) rfl) (Zo 1 1 [89] rfl (fun _ ho_ => QW.load_box1 1 ty26 (.tmp rfl) ho_ rfl) (Zf 2 [] rfl (fun _ => QW.move (.tmp rfl)) (Zf 3 [90, 91] rfl (fun _ => QW.index_sl sl26 ty9 rfl (.tmp rfl) (.tmp rfl) rfl (keysAV_getE hlt)) (Zf 4 [92] rfl (fun _ => QW.load_ref1 ty9 (.tmp rfl) rfl) (Zf 5 [] rfl (fun _ => QW.field_ptr fo29_3 (.tmp rfl) rfl) (Zo 6 0 [94] rfl (fun _ ho_ => QW.load_box1 0 ty26 (.tmp rfl) ho_ rfl) (Zf 7 [] rfl (fun _ => QW.move (.tmp rfl)) ?_)))))))))
        refine Zf 8 [95, 96] rfl (fun _ => QW.index_sl sl26 ty9 rfl (.tmp rfl) (.tmp rfl) rfl (keysAV_getE hlt2)) (Zf 9 [97] rfl (fun _ => QW.load_ref1 ty9 (.tmp rfl) rfl) (Zf 10 [93, 98] rfl (fun _ => QW.lss_s (.tmp rfl) (.tmp rfl)) (Zf 11 [99] rfl (fun _ => QW.call gofn136 (.cons (.tmp rfl) (.cons .const .nil)) (number02_ok _ _)) (Zf 12 [100] rfl (fun _ => QW.assign (.tmp rfl)) (JX.fin (by kernel_rfl) (by kernel_rfl) fun bs_ => ?_)))))
        refine QX.conv (by (try simp only [vlF, bxF, tkM, lvM, Flt.val, Flt.bx, nx, nl, stepsO, valO, nthO, curO, mrg, AV.cellsOf, splice_zero, splice_succ, Nat.reduceAdd]); rfl) ?_
        exact thenQ.n (J.ret (blkQ.r (thenQ.r (thenQ.r (blkQ.r (thenQ.r (Zr [.k, .k] (RetEv.one rfl (REv.tmp rfl lr)) rfl ⟨by rw [hord, hs, cmpK_drop hlt hlt2, numI_sne hz, orI_n (a := cmpS _ _) (fun h => hz (cmpS_zero.1 h)), orI_n (fun h => hz (cmpS_zero.1 h))], rfl⟩)))))))
      have hz : ks[i] = ks'[i] := by simpa using c6
      refine J.skip (blkQ.n (thenQ.n (J.region_lit (Zq rfl (QW.move (.tmp rfl)) (Zq rfl (QW.add (.tmp rfl) .const (w64 (by omega))) (Zq rfl (QW.assign (.tmp rfl)) (Zn ?_)))))))
      exact ⟨i + 1, ⟨hlt, hlt2, by rw [hs, cmpK_drop hlt hlt2, hz, cmpS_self, orI_z]⟩, by omega, Wk.re (.cons rfl lr (.cons rfl lr (.cons rfl lr .nil))) (Reown.refl _) (fun _ h => by first | exact h | simp [h])⟩
    have hge : ks.length ≤ i ∨ ks'.length ≤ i := by (simp at c5; omega)
    refine J.exit (thenQ.x (thenQ.x (blkQ.hit (thenQ.n (J.seq (Zs (Zq rfl (QW.field_ptr fo29_3 (.tmp rfl) rfl) (Zq rfl (QW.load_box1 1 ty26 (.tmp rfl) rfl rfl) (Zq rfl (QW.len_slE sl26 (.tmp rfl) (keysAV_length _)) ?_)))))))))
    refine Zq rfl (QW.field_ptr fo29_3 (.tmp rfl) rfl) (Zq rfl (QW.load_box1 0 ty26 (.tmp rfl) rfl rfl) (Zq rfl (QW.len_slE sl26 (.tmp rfl) (keysAV_length _)) (Zq rfl (QW.neq (.tmp rfl) (.tmp rfl)) (Zn ?_))))
    refine J.cond (.tmp rfl) (fun c6 => ?_) (fun c6 => ?_)
    · skip
      have hz : ks.length ≠ ks'.length := by (simp at c6; omega)
      refine Zs (Zq rfl (QW.field_ptr fo29_3 (.tmp rfl) rfl) (Zq rfl (QW.load_box1 1 ty26 (.tmp rfl) rfl rfl) (Zq rfl (QW.len_slE sl26 (.tmp rfl) (keysAV_length _)) (Zq rfl (QW.field_ptr fo29_3 (.tmp rfl) rfl) (Zq rfl (QW.load_box1 0 ty26 (.tmp rfl) rfl rfl) (Zq rfl (QW.len_slE sl26 (.tmp rfl) (keysAV_length _)) (Zq rfl (QW.lss (.tmp rfl) (.tmp rfl)) (Zq rfl (QW.call gofn136 (.cons (.tmp rfl) (.cons .const .nil)) (number02_ok _ _)) (Zq rfl (QW.assign (.tmp rfl)) ?_)))))))))
      refine Zn (J.ret (thenQ.r ?_))
      have hc : cmpK ks ks' = cmpI (ks.length : Int) (ks'.length : Int) := by
        rw [hs]
        rcases Nat.lt_or_gt_of_ne hz with h | h
        · rw [cmpK_lt (by omega) (by omega)]; unfold cmpI; rw [if_pos (by omega)]
        · rw [cmpK_gt (by omega) (by omega)]; unfold cmpI; rw [if_neg (by omega), if_pos (by omega)]
      exact Zr [.k, .k] (RetEv.one rfl (REv.tmp rfl lr)) rfl ⟨by rw [hord, hc, numI_ne (by omega), orI_n (fun h => by have := cmpI_zero.1 h; omega)], rfl⟩
    have hz : ks.length = ks'.length := by (simp at c6; omega)
    rw [hs, cmpK_eq (by omega) (by omega), orI_z] at hord
    clear hs
    refine Zk (J.seq (Zs (Zq rfl (QW.assign .const) (Zn (J.block (J.loopK (ι := Nat) [2, 3] (fun j => [(8, .c (.int .i64 (j : Int)))]) (fun _ oo => oo) (fun j => j ≤ is.length ∧ j ≤ is'.length ∧ V.ords is is' = V.ords (is.drop j) (is'.drop j)) (fun j => is.length - j) 0 (⟨Nat.zero_le _, Nat.zero_le _, rfl⟩) (Wk.re (.cons rfl lr (.cons rfl lr (.cons rfl lr .nil))) (Reown.refl _) (fun _ h => by first | exact h | simp [h])) ?_))))))
    intro j ⟨hk, hk2, hs⟩
    refine J.conv (by (try simp only [nl, stepsO, valO, nthO, curO, mrg, AV.cellsOf, splice_zero, splice_succ, Nat.reduceAdd]); rfl) ?_
    refine J.seq (Zs (Zq rfl (QW.move (.tmp rfl)) (Zq rfl (QW.field_ptr fo29_4 (.tmp rfl) rfl) (Zq rfl (QW.load_box1 1 ty27 (.tmp rfl) rfl rfl) (Zq rfl (QW.len_slE sl27 (.tmp rfl) wl) (Zq rfl (QW.lss (.tmp rfl) (.tmp rfl)) (Zq rfl (QW.move (.tmp rfl)) (Zg rfl (fun hg => (QW.move (.tmp rfl))) (Zg rfl (fun hg => (QW.field_ptr fo29_4 (.tmp rfl) rfl)) ?_)))))))))
    refine Zg rfl (fun hg => (QW.load_box1 0 ty27 (.when rfl hg) rfl rfl)) (Zg rfl (fun hg => (QW.len_slE sl27 (.when rfl hg) wl)) (Zg rfl (fun hg => (QW.lss (.when rfl hg) (.when rfl hg))) (Zq rfl (QW.pick_and (.tmp rfl) (.tmp rfl)) (Zn ?_))))
    refine J.cond (.tmp rfl) (fun c7 => ?_) (fun c7 => ?_)
    · skip
      have hlt : j < is.length := by (simp at c7; omega)
      have hlt2 : j < is'.length := by (simp at c7; omega)
      refine Zk (J.seq (J.block (J.seq (J.regionX mixed (Zf 0 [] rfl (fun _ => QW.field_ptr fo29_4 (.tmp rfl) rfl) (Zo 1 1 [130] rfl (fun _ ho_ => QW.load_box1 1 ty27 (.tmp rfl) ho_ rfl) (Zf 2 [] rfl (fun _ => QW.move (.tmp rfl)) (Zf 3 [131, 132] rfl (fun _ => QW.index_sl sl27 ty29 rfl (.tmp rfl) (.tmp rfl) rfl (V.css_getE _ hlt)) (Zf 4 [133] rfl (fun _ => QW.load_ref ty29 (.tmp rfl) (take_at0 vl rfl) vl) ?_)))))))))
      refine Zf 5 [] rfl (fun _ => QW.field_ptr fo29_4 (.tmp rfl) rfl) (Zo 6 0 [135] rfl (fun _ ho_ => QW.load_box1 0 ty27 (.tmp rfl) ho_ rfl) (Zf 7 [] rfl (fun _ => QW.move (.tmp rfl)) (Zf 8 [136, 137] rfl (fun _ => QW.index_sl sl27 ty29 rfl (.tmp rfl) (.tmp rfl) rfl (V.css_getE _ hlt2)) (Zf 9 [138] rfl (fun _ => QW.load_ref ty29 (.tmp rfl) (take_at0 vl rfl) vl) (Zf 10 [134, 139] rfl (fun _ => QW.call gofn109 (.cons (.tmp rfl) (.cons (.tmp rfl) .nil)) (ih Vc.self Vc.self (hwi _ (List.getElem_mem hlt)) (hwi' _ (List.getElem_mem hlt2)) (hf.kid (List.getElem_mem hlt)) (hg.kid (List.getElem_mem hlt2)) (V.sz_get hn hlt))) (Zf 11 [140] rfl (fun _ => QW.assign (.tmp rfl)) (JX.fin (by kernel_rfl) (by kernel_rfl) fun bs_ => ?_)))))))
      refine QX.conv (by (try simp only [vlF, bxF, tkM, lvM, Flt.val, Flt.bx, nx, nl, stepsO, valO, nthO, curO, mrg, AV.cellsOf, splice_zero, splice_succ, Nat.reduceAdd]); rfl) ?_
      refine thenQ.n (Zs (Zq rfl (QW.move (.tmp rfl)) (Zq rfl (QW.neq (.tmp rfl) .const) (Zn ?_))))
      refine J.cond (.tmp rfl) (fun c8 => ?_) (fun c8 => ?_)
      · skip
        have hz : is[j].ord is'[j] ≠ 0 := by simpa using c8
        exact Zs (Zq rfl (QW.move (.tmp rfl)) (Zq rfl (QW.assign (.tmp rfl)) (Zn (J.ret (blkQ.r (thenQ.r (thenQ.r (blkQ.r (thenQ.r (Zr [.k, .k] (RetEv.one rfl (REv.tmp rfl lr)) rfl ⟨by rw [hord, hs, ords_drop hlt hlt2, orI_n hz], rfl⟩))))))))))
      have hz : is[j].ord is'[j] = 0 := by simpa using c8
      refine J.skip (blkQ.n (thenQ.n (J.region_lit (Zq rfl (QW.move (.tmp rfl)) (Zq rfl (QW.add (.tmp rfl) .const (w64 (by omega))) (Zq rfl (QW.assign (.tmp rfl)) (Zn ?_)))))))
      exact ⟨j + 1, ⟨hlt, hlt2, by rw [hs, ords_drop hlt hlt2, hz, orI_z]⟩, by omega, Wk.re (.cons rfl lr (.cons rfl lr (.cons rfl lr .nil))) (Reown.refl _) (fun _ h => by first | exact h | simp [h])⟩
    have hge : is.length ≤ j ∨ is'.length ≤ j := by (simp at c7; omega)
    refine J.exit (thenQ.x (thenQ.x (blkQ.hit (thenQ.n (Zs (Zq rfl (QW.field_ptr fo29_4 (.tmp rfl) rfl) (Zq rfl (QW.load_box1 1 ty27 (.tmp rfl) rfl rfl) (Zq rfl (QW.len_slE sl27 (.tmp rfl) wl) (Zq rfl (QW.field_ptr fo29_4 (.tmp rfl) rfl) ?_)))))))))
    refine Zq rfl (QW.load_box1 0 ty27 (.tmp rfl) rfl rfl) (Zq rfl (QW.len_slE sl27 (.tmp rfl) wl) (Zq rfl (QW.lss (.tmp rfl) (.tmp rfl)) (Zq rfl (QW.field_ptr fo29_4 (.tmp rfl) rfl) (Zq rfl (QW.load_box1 1 ty27 (.tmp rfl) rfl rfl) (Zq rfl (QW.len_slE sl27 (.tmp rfl) wl) (Zq rfl (QW.field_ptr fo29_4 (.tmp rfl) rfl) (Zq rfl (QW.load_box1 0 ty27 (.tmp rfl) rfl rfl) (Zq rfl (QW.len_slE sl27 (.tmp rfl) wl) (Zq rfl (QW.eql (.tmp rfl) (.tmp rfl)) ?_)))))))))
    refine Zq rfl (QW.call gofn136 (.cons (.tmp rfl) (.cons (.tmp rfl) .nil)) (number02_ok _ _)) (Zq rfl (QW.assign (.tmp rfl)) (Zn (J.ret ?_)))
    have hc : V.ords is is' = cmpI (is.length : Int) (is'.length : Int) := by
      rw [hs]
      rcases Nat.lt_trichotomy is.length is'.length with h | h | h
      · rw [ords_lt (by omega) (by omega)]; unfold cmpI; rw [if_pos (by omega)]
      · rw [ords_eq (by omega) (by omega), h, cmpI_self]
      · rw [ords_gt (by omega) (by omega)]; unfold cmpI; rw [if_neg (by omega), if_pos (by omega)]
    exact Zr [.k, .k] (RetEv.one rfl (REv.tmp rfl lr)) rfl ⟨by rw [hord, hc, ← numI_int], rfl⟩
theorem rvorder_ok {v u : V} {ys zs : List AV} {fr fr2 : Bool} (hv : Vc fr v ys) (hu : Vc fr2 u zs) (hw : v.wf) (hw2 : u.wf) (hf : v.Fine) (hg : u.Fine) : Fn Tryz.prog 109 [.agg ys, .agg zs] (.c (.int .i64 (v.ord u))) := rvorder_n _ hv hu hw hw2 hf hg (Nat.le_refl _)
end Go.Proofs.YtjhonjdhanlbkaaGreat.J

/- Walks: the page sets a part; what is alive. -/
namespace Go.Proofs.YtjhonjdhanlbkaaGreat.J
open Go Go.RowKit
set_option maxRecDepth 10000
set_option maxHeartbeats 4000000
theorem rset_ok {fr fr2 cl2 : Bool} {v x : V} {p : List StT} {ys zs : List AV} (hv : Vc fr v ys) (hx : Vc fr x zs) (hw : v.wf) (hxw : x.wf) (hp : p.length * 32 ≤ reach ∧ ∀ s ∈ p, s.wf) : Fn Tryz.prog 84 [.agg ys, .sl fr2 cl2 eSt (StT.css p), .agg zs] (setAV v p x) := by
  obtain ⟨hp80, hpw⟩ := hp
  have hpl : p.length ≤ 4398046511104 := by unfold reach at hp80; omega
  subst hv hx
  obtain ⟨w, f, hset⟩ : ∃ w f, v.set p x = (w, f) := ⟨_, _, rfl⟩
  refine AC.of_J Tryz.func84 rfl Tryz.ntmps84 rfl fun w0 A0 => ?_
  refine Zs (JL.box_agg (.tmp rfl) rfl fun b3 => JL.box_agg (.tmp rfl) rfl fun b5 => JL.alloc z29 rfl rfl fun b6 => Zq rfl (QW.assign .const) (Zn (Zs (Zq rfl (QW.load_box 2 ty29 (.tmp rfl) rfl (take_at vl rfl) vl) (Zq rfl (QW.call gofn20 (.cons (.tmp rfl) .nil) (rcheck_ok Vc.self hw)) (Zq rfl (QW.assign (.tmp rfl)) ?_))))))
  refine Zn (J.seq (Zs (Zq rfl (QW.move (.tmp rfl)) (Zq rfl (QW.neq (.tmp rfl) .const) (Zn ?_)))))
  refine J.cond (.tmp rfl) (fun c1 => ?_) (fun c1 => ?_)
  · skip
    simp at c1
    exact Zs (Zq rfl (QW.build (idx := []) pl29 z29 rfl .nil rfl rfl rfl rfl) (Zq rfl (QW.move (.tmp rfl)) (JL.store_boxF 0 ty29 (.tmp rfl) rfl (.tmp rfl) rfl rfl rfl rfl (Zq rfl (QW.assign (.tmp rfl)) (Zn (J.ret (thenQ.r (Zr [.k, .k, .k] (RetEv.two rfl (REv.cell 0 ty29 rfl rfl rfl rfl (.aggL (.cons lr (.cons lr (.cons lr (.cons (.nil true false _) (.cons (.nil true false _) .nil))))))) (REv.tmp rfl lr)) rfl ⟨congrArg Res.ret (setAV_of (u := .nil) (e := v.err) (by rw [V.setv, if_pos c1])).symm, rfl⟩))))))))
  simp at c1
  have hv0 := c1
  refine Zk (Zs (Zq rfl (QW.load_box 1 ty29 (.tmp rfl) rfl (take_at vl rfl) vl) (Zq rfl (QW.call gofn20 (.cons (.tmp rfl) .nil) (rcheck_ok Vc.self hxw)) (Zq rfl (QW.assign (.tmp rfl)) (Zn (J.seq (Zs (Zq rfl (QW.move (.tmp rfl)) (Zq rfl (QW.neq (.tmp rfl) .const) ?_)))))))))
  refine Zn ?_
  refine J.cond (.tmp rfl) (fun c2 => ?_) (fun c2 => ?_)
  · skip
    simp at c2
    exact Zs (Zq rfl (QW.build (idx := []) pl29 z29 rfl .nil rfl rfl rfl rfl) (Zq rfl (QW.move (.tmp rfl)) (JL.store_boxF 0 ty29 (.tmp rfl) rfl (.tmp rfl) rfl rfl rfl rfl (Zq rfl (QW.assign (.tmp rfl)) (Zn (J.ret (thenQ.r (Zr [.k, .k, .k] (RetEv.two rfl (REv.cell 0 ty29 rfl rfl rfl rfl (.aggL (.cons lr (.cons lr (.cons lr (.cons (.nil true false _) (.cons (.nil true false _) .nil))))))) (REv.tmp rfl lr)) rfl ⟨congrArg Res.ret (setAV_of (u := .nil) (e := x.err) (by rw [V.setv, if_neg (by simp [hv0]), if_pos c2])).symm, rfl⟩))))))))
  simp at c2
  have hx0 := c2
  have hww : w.wf := by have := V.set_wf hw (V.fine_of hv0) hpw hxw; rwa [hset] at this
  refine Zk (J.seq (J.regionX mixed (Zo 0 2 [] rfl (fun _ ho_ => QW.load_box 2 ty29 (.tmp rfl) ho_ (take_at vl rfl) vl) (Zf 2 [] rfl (fun _ => QW.move (.tmp rfl)) (Zo 3 1 [] rfl (fun _ ho_ => QW.load_box 1 ty29 (.tmp rfl) ho_ (take_at vl rfl) vl) (JX.a 9 rfl (AllocOp.mk z29 rfl) rfl rfl rfl rfl rfl (JX.one 1 [false, false, false, true] rfl (by kernel_rfl) (by kernel_rfl) rfl rfl (by kernel_rfl) rfl fun bs1_ pe_ ex_ => ?_)))))))
  refine JL.conv (by (try simp only [vlF, bxF, tkM, lvM, Flt.val, Flt.bx, nx, nl, stepsO, valO, nthO, curO, mrg, AV.cellsOf, splice_zero, splice_succ, Nat.reduceAdd]); rfl) ?_
  refine JL.callRF [] gofn35 rfl Lent.nil (fun _ => (.cons (.tmp rfl) .nil)) (rown_ok Vc.self hw) (.inl rfl) fun x26 o26 h26 => ?_
  obtain ⟨kv26, iv26, ok26, oi26, rfl, rfl, hV26⟩ := h26
  refine JL.nil ?_
  refine thenQ.n ⟨[_], _, rfl, rfl, rfl, rfl, rfl, Reown.mrgN 3 rfl rfl, ⟨rfl, rfl⟩, ⟨trivial, ⟨rfl, ⟨trivial, trivial⟩⟩⟩, ?_⟩
  refine JX.conv (S' := [1, 0]) rfl (by (try simp only [lvM]); rfl) (by (try simp only [vlF, bxF, tkM, lvM, Flt.val, Flt.bx, nx, nl, stepsO, valO, nthO, curO, mrg, AV.cellsOf, splice_zero, splice_succ, Nat.reduceAdd]); rfl) ?_
  refine JX.one 4 [false, true, false] rfl (by kernel_rfl) (by kernel_rfl) rfl rfl (by kernel_rfl) rfl fun bs4_ pe_ ex_ => ?_
  refine JL.conv (by (try simp only [vlF, bxF, tkM, lvM, Flt.val, Flt.bx, nx, nl, stepsO, valO, nthO, curO, mrg, AV.cellsOf, splice_zero, splice_succ, Nat.reduceAdd]); rfl) ?_
  refine JL.callRF [] gofn35 rfl Lent.nil (fun _ => (.cons (.tmp rfl) .nil)) (rown_ok Vc.self hxw) (.inl rfl) fun x29 o29 h29 => ?_
  obtain ⟨kv29, iv29, ok29, oi29, rfl, rfl, hV29⟩ := h29
  refine JL.nil ?_
  refine thenQ.n ⟨[_], _, rfl, rfl, rfl, rfl, rfl, Reown.mrgN 5 rfl rfl, ⟨rfl, rfl⟩, ⟨trivial, ⟨trivial, trivial⟩⟩, ?_⟩
  refine JX.conv (S' := [4, 3, 1, 0]) rfl (by (try simp only [lvM]); rfl) (by (try simp only [vlF, bxF, tkM, lvM, Flt.val, Flt.bx, nx, nl, stepsO, valO, nthO, curO, mrg, AV.cellsOf, splice_zero, splice_succ, Nat.reduceAdd]); rfl) ?_
  refine JX.one 5 [false, true] rfl (by kernel_rfl) (by kernel_rfl) rfl rfl (by kernel_rfl) rfl fun bs5_ pe_ ex_ => ?_
  refine JL.conv (by (try simp only [vlF, bxF, tkM, lvM, Flt.val, Flt.bx, nx, nl, stepsO, valO, nthO, curO, mrg, AV.cellsOf, splice_zero, splice_succ, Nat.reduceAdd]); rfl) ?_
  refine JL.callRF [.k, .k, .k, .p, .p, .p, .p] gofn110 rfl Lent.nil (fun _ => (.cons (.tmp rfl) (.cons (.tmp rfl) (.cons (.tmp rfl) .nil)))) (hset ▸ rset_n _ hV26 hV29 (V.fine_of hv0) hw hxw ⟨hp80, hpw⟩ (Nat.lt_succ_self _)) (.inl rfl) fun x30 o30 h30 => ?_
  obtain ⟨kv30, iv30, ok30, oi30, rfl, rfl, hV30⟩ := h30
  refine JL.nil ?_
  refine thenQ.n ⟨[_], _, rfl, rfl, rfl, rfl, rfl, Reown.mrgN 7 rfl rfl, ⟨rfl, rfl⟩, ⟨trivial, trivial⟩, ?_⟩
  refine JX.conv (S' := [5, 2, 4, 3, 1, 0]) rfl (by (try simp only [lvM]); rfl) (by (try simp only [vlF, bxF, tkM, lvM, Flt.val, Flt.bx, nx, nl, stepsO, valO, nthO, curO, mrg, AV.cellsOf, splice_zero, splice_succ, Nat.reduceAdd]); rfl) ?_
  refine Zf 6 [30] rfl (fun _ => QW.move (.tmp rfl)) (Zf 7 [24] rfl (fun _ => QW.extract (.tmp rfl) rfl) (Zf 8 [24] rfl (fun _ => QW.extract (.tmp rfl) rfl) (JX.one 10 [false, true, true, true] rfl (by kernel_rfl) (by kernel_rfl) rfl rfl (by kernel_rfl) rfl fun bs10_ pe_ ex_ => ?_)))
  refine JL.conv (by (try simp only [vlF, bxF, tkM, lvM, Flt.val, Flt.bx, nx, nl, stepsO, valO, nthO, curO, mrg, AV.cellsOf, splice_zero, splice_succ, Nat.reduceAdd]); rfl) ?_
  refine JL.store_boxF 5 ty29 (.tmp rfl) rfl (.tmp rfl) rfl rfl rfl rfl (JL.nil ?_)
  refine thenQ.n ⟨[], _, rfl, rfl, rfl, rfl, rfl, Reown.tkN 6 rfl, trivial, ⟨trivial, trivial⟩, ?_⟩
  refine JX.conv (S' := [10, 7, 6, 9, 5, 2, 4, 3, 1, 0]) rfl (by (try simp only [lvM]); rfl) (by (try simp only [vlF, bxF, tkM, lvM, Flt.val, Flt.bx, nx, nl, stepsO, valO, nthO, curO, mrg, AV.cellsOf, splice_zero, splice_succ, Nat.reduceAdd]); rfl) ?_
  refine Zf 11 [32] rfl (fun _ => QW.assign (.tmp rfl)) (JX.fin (by kernel_rfl) (by kernel_rfl) fun bs_ => ?_)
  refine QX.conv (by (try simp only [vlF, bxF, tkM, lvM, Flt.val, Flt.bx, nx, nl, stepsO, valO, nthO, curO, mrg, AV.cellsOf, splice_zero, splice_succ, Nat.reduceAdd]); rfl) ?_
  refine thenQ.n (J.cutK (ι := Int) [6, 7, 10] (fun g => [(11, .c (.int .i64 g))]) (fun g oo => oo) (fun g => g = if f = 0 then w.err else f) ?_ ?_)
  · skip
    refine Zs (Zq rfl (QW.move (.tmp rfl)) (Zq rfl (QW.eql (.tmp rfl) .const) (Zn ?_)))
    refine J.cond (.tmp rfl) (fun c3 => ?_) (fun c3 => ?_)
    · skip
      have hf0 : f = 0 := by simpa using c3
      refine J.region_lit (Zq rfl (QW.load_box 5 ty29 (.tmp rfl) rfl rfl rfl) (Zq rfl (QW.callLF [.k, .k, .k, .l, .l] gofn20 (Lent.cons (hV30.lentK) (Lent.cons (hV30.lentI) Lent.nil)) rfl rfl (fun _ => (.cons (Ev.le (.tmp rfl) (V.raw_le (by simp) (by simp))) .nil)) (rcheck_ok (fr := false) (v := w) Vc.self hww) (Fl.c _)) ?_))
      refine Zq rfl (QW.assign (.tmp rfl)) (Zn ?_)
      exact ⟨w.err, by rw [if_pos hf0], Wk.re (.cons rfl lr (.cons rfl lr (.cons rfl lr (.cons rfl lr .nil)))) (Reown.refl _) (fun _ h => by first | exact h | simp [h])⟩
    have hf0 : f ≠ 0 := by simpa using c3
    refine Zk ?_
    exact ⟨f, by rw [if_neg hf0], Wk.re (.cons rfl lr (.cons rfl lr (.cons rfl lr (.cons rfl lr .nil)))) (Reown.refl _) (fun _ h => by first | exact h | simp [h])⟩
  · intro g hg
    refine J.conv (by (try simp only [nl, stepsO, valO, nthO, curO, mrg, AV.cellsOf, splice_zero, splice_succ, Nat.reduceAdd]); rfl) ?_
    refine J.seq (Zs (Zq rfl (QW.move (.tmp rfl)) (Zq rfl (QW.neq (.tmp rfl) .const) (Zn ?_))))
    refine J.cond (.tmp rfl) (fun c3 => ?_) (fun c3 => ?_)
    · skip
      have hg0 : g ≠ 0 := by simpa using c3
      exact Zs (Zq rfl (QW.build (idx := []) pl29 z29 rfl .nil rfl rfl rfl rfl) (Zq rfl (QW.move (.tmp rfl)) (JL.store_boxF 0 ty29 (.tmp rfl) rfl (.tmp rfl) rfl rfl rfl rfl (Zq rfl (QW.assign (.tmp rfl)) (Zn (J.ret (thenQ.r (Zr [.k, .k, .k, .k, .k, .k] (RetEv.two rfl (REv.cell 0 ty29 rfl rfl rfl rfl (.aggL (.cons lr (.cons lr (.cons lr (.cons (.nil true false _) (.cons (.nil true false _) .nil))))))) (REv.tmp rfl lr)) rfl ⟨congrArg Res.ret (setAV_of (u := .nil) (e := g) (by by_cases hf0 : f = 0; (subst hf0; rw [if_pos rfl] at hg; subst hg; exact setv_bad hv0 hx0 hset hg0); (rw [if_neg hf0] at hg; subst hg; exact setv_err hv0 hx0 hset hf0))).symm, rfl⟩))))))))
    have hg0 : g = 0 := by simpa using c3
    refine Zk (J.seq ?_)
    have hf0 : f = 0 := by
      by_cases h : f = 0
      · exact h
      · rw [if_neg h] at hg; exact absurd (hg.symm.trans hg0) h
    subst hf0
    refine J.close 3 rfl hV30.ks.clos rfl (fun _ h => by cases h) ?_
    refine J.close 3 rfl hV30.is.clos rfl (fun _ h => by cases h) ?_
    exact J.region_lit (Zq rfl (QW.load_box 3 ty29 (.tmp rfl) rfl rfl rfl) (JL.store_boxF 0 ty29 (.tmp rfl) rfl (.tmp rfl) rfl rfl rfl rfl (Zq rfl (QW.assign .const) (Zn (J.ret (Zr [.k, .k, .k, .k] (RetEv.two rfl (REv.cell 0 ty29 rfl rfl rfl rfl (V.raw_le (by simp) (by simp))) (REv.tmp rfl lr)) rfl ⟨congrArg Res.ret (setAV_of (setv_ok hv0 hx0 hset (hg.symm.trans hg0))).symm, rfl⟩))))))
end Go.Proofs.YtjhonjdhanlbkaaGreat.J

/- Walks: values compared; ValueOrders, ValueOrder. -/
namespace Go.Proofs.YtjhonjdhanlbkaaGreat.J
open Go Go.RowKit
set_option maxRecDepth 10000
set_option maxHeartbeats 4000000
def cmpAV (v u : V) : AV := .tup [.c (.int .i64 (v.cmp u).1), .c (.int .i64 (v.cmp u).2)]
theorem cmpAV_of {v u : V} {c e : Int} (h : v.cmp u = (c, e)) : cmpAV v u = .tup [.c (.int .i64 c), .c (.int .i64 e)] := by rw [cmpAV, h]
theorem vcmp_ok {fr fr2 : Bool} {v u : V} {ys zs : List AV} (hv : Vc fr v ys) (hu : Vc fr2 u zs) (hw : v.wf) (hw2 : u.wf) : Fn Tryz.prog 75 [.agg ys, .agg zs] (cmpAV v u) := by
  subst hv hu
  refine AC.of_J Tryz.func75 rfl Tryz.ntmps75 rfl fun w0 A0 => ?_
  refine Zs (JL.box_agg (.tmp rfl) rfl fun b2 => JL.box_agg (.tmp rfl) rfl fun b3 => Zq rfl (QW.assign .const) (Zq rfl (QW.assign .const) (Zn (J.seq (Zs (Zq rfl (QW.load_box 1 ty29 (.tmp rfl) rfl (take_at vl rfl) vl) (Zq rfl (QW.call gofn18 (.cons (.tmp rfl) .nil) (check_ok Vc.self hw)) ?_)))))))
  refine Zq rfl (QW.assign (.tmp rfl)) (Zn (Zs (Zq rfl (QW.move (.tmp rfl)) (Zq rfl (QW.neq (.tmp rfl) .const) (Zn ?_)))))
  refine J.cond (.tmp rfl) (fun c1 => ?_) (fun c1 => ?_)
  · skip
    simp at c1
    exact Zs (Zq rfl (QW.move (.tmp rfl)) (Zq rfl (QW.assign .const) (Zq rfl (QW.assign (.tmp rfl)) (Zn (J.ret (thenQ.r (Zr [.k, .k] (RetEv.two rfl (REv.tmp rfl lr) (REv.tmp rfl lr)) rfl ⟨congrArg Res.ret (cmpAV_of (c := 0) (e := v.err) (by rw [V.cmp, if_pos c1])).symm, rfl⟩)))))))
  simp at c1
  have hf := V.fine_of c1
  refine Zk (J.seq (Zs (Zq rfl (QW.load_box 0 ty29 (.tmp rfl) rfl (take_at vl rfl) vl) (Zq rfl (QW.call gofn18 (.cons (.tmp rfl) .nil) (check_ok Vc.self hw2)) (Zq rfl (QW.assign (.tmp rfl)) (Zn (Zs (Zq rfl (QW.move (.tmp rfl)) (Zq rfl (QW.neq (.tmp rfl) .const) ?_)))))))))
  refine Zn ?_
  refine J.cond (.tmp rfl) (fun c2 => ?_) (fun c2 => ?_)
  · skip
    simp at c2
    exact Zs (Zq rfl (QW.move (.tmp rfl)) (Zq rfl (QW.assign .const) (Zq rfl (QW.assign (.tmp rfl)) (Zn (J.ret (thenQ.r (Zr [.k, .k] (RetEv.two rfl (REv.tmp rfl lr) (REv.tmp rfl lr)) rfl ⟨congrArg Res.ret (cmpAV_of (c := 0) (e := u.err) (by rw [V.cmp, if_neg (by simp [c1]), if_pos c2])).symm, rfl⟩)))))))
  simp at c2
  have hg := V.fine_of c2
  exact Zk (Zs (Zq rfl (QW.load_box 1 ty29 (.tmp rfl) rfl (take_at vl rfl) vl) (Zq rfl (QW.load_box 0 ty29 (.tmp rfl) rfl (take_at vl rfl) vl) (Zq rfl (QW.call gofn99 (.cons (.tmp rfl) (.cons (.tmp rfl) .nil)) (vorder_ok Vc.self Vc.self hw hw2)) (Zq rfl (QW.assign (.tmp rfl)) (Zq rfl (QW.assign .const) (Zn (J.ret (Zr [.k, .k] (RetEv.two rfl (REv.tmp rfl lr) (REv.tmp rfl lr)) rfl ⟨congrArg Res.ret (cmpAV_of (c := v.ord u) (e := 0) (by rw [V.cmp, if_neg (by simp [c1]), if_neg (by simp [c2])])).symm, rfl⟩)))))))))
theorem rvcmp_ok {fr fr2 : Bool} {v u : V} {ys zs : List AV} (hv : Vc fr v ys) (hu : Vc fr2 u zs) (hw : v.wf) (hw2 : u.wf) : Fn Tryz.prog 83 [.agg ys, .agg zs] (cmpAV v u) := by
  subst hv hu
  refine AC.of_J Tryz.func83 rfl Tryz.ntmps83 rfl fun w0 A0 => ?_
  refine Zs (JL.box_agg (.tmp rfl) rfl fun b2 => JL.box_agg (.tmp rfl) rfl fun b3 => Zq rfl (QW.assign .const) (Zq rfl (QW.assign .const) (Zn (Zs (Zq rfl (QW.load_box 1 ty29 (.tmp rfl) rfl (take_at vl rfl) vl) (Zq rfl (QW.call gofn20 (.cons (.tmp rfl) .nil) (rcheck_ok Vc.self hw)) (Zq rfl (QW.assign (.tmp rfl)) ?_)))))))
  refine Zn (J.seq (Zs (Zq rfl (QW.move (.tmp rfl)) (Zq rfl (QW.neq (.tmp rfl) .const) (Zn ?_)))))
  refine J.cond (.tmp rfl) (fun c1 => ?_) (fun c1 => ?_)
  · skip
    simp at c1
    exact Zs (Zq rfl (QW.move (.tmp rfl)) (Zq rfl (QW.assign .const) (Zq rfl (QW.assign (.tmp rfl)) (Zn (J.ret (thenQ.r (Zr [.k, .k] (RetEv.two rfl (REv.tmp rfl lr) (REv.tmp rfl lr)) rfl ⟨congrArg Res.ret (cmpAV_of (c := 0) (e := v.err) (by rw [V.cmp, if_pos c1])).symm, rfl⟩)))))))
  simp at c1
  have hf := V.fine_of c1
  refine Zk (Zs (Zq rfl (QW.load_box 0 ty29 (.tmp rfl) rfl (take_at vl rfl) vl) (Zq rfl (QW.call gofn20 (.cons (.tmp rfl) .nil) (rcheck_ok Vc.self hw2)) (Zq rfl (QW.assign (.tmp rfl)) (Zn (J.seq (Zs (Zq rfl (QW.move (.tmp rfl)) (Zq rfl (QW.neq (.tmp rfl) .const) ?_)))))))))
  refine Zn ?_
  refine J.cond (.tmp rfl) (fun c2 => ?_) (fun c2 => ?_)
  · skip
    simp at c2
    exact Zs (Zq rfl (QW.move (.tmp rfl)) (Zq rfl (QW.assign .const) (Zq rfl (QW.assign (.tmp rfl)) (Zn (J.ret (thenQ.r (Zr [.k, .k] (RetEv.two rfl (REv.tmp rfl lr) (REv.tmp rfl lr)) rfl ⟨congrArg Res.ret (cmpAV_of (c := 0) (e := u.err) (by rw [V.cmp, if_neg (by simp [c1]), if_pos c2])).symm, rfl⟩)))))))
  simp at c2
  have hg := V.fine_of c2
  exact Zk (Zs (Zq rfl (QW.load_box 1 ty29 (.tmp rfl) rfl (take_at vl rfl) vl) (Zq rfl (QW.load_box 0 ty29 (.tmp rfl) rfl (take_at vl rfl) vl) (Zq rfl (QW.call gofn109 (.cons (.tmp rfl) (.cons (.tmp rfl) .nil)) (rvorder_ok Vc.self Vc.self hw hw2 hf hg)) (Zq rfl (QW.assign (.tmp rfl)) (Zq rfl (QW.assign .const) (Zn (J.ret (Zr [.k, .k] (RetEv.two rfl (REv.tmp rfl lr) (REv.tmp rfl lr)) rfl ⟨congrArg Res.ret (cmpAV_of (c := v.ord u) (e := 0) (by rw [V.cmp, if_neg (by simp [c1]), if_neg (by simp [c2])])).symm, rfl⟩)))))))))
theorem vone_ok {fr fr2 : Bool} {v u : V} {ys zs : List AV} (hv : Vc fr v ys) (hu : Vc fr2 u zs) (hw : v.wf) (hw2 : u.wf) : Fn Tryz.prog 74 [.agg ys, .agg zs] (.c (.bool (v.one u))) := by
  subst hv hu
  refine AC.of_J Tryz.func74 rfl Tryz.ntmps74 rfl fun w0 A0 => ?_
  refine Zs (JL.box_agg (.tmp rfl) rfl fun b2 => JL.box_agg (.tmp rfl) rfl fun b3 => Zq rfl (QW.assign .const) (Zn (Zs (Zq rfl (QW.load_box 1 ty29 (.tmp rfl) rfl (take_at vl rfl) vl) (Zq rfl (QW.load_box 0 ty29 (.tmp rfl) rfl (take_at vl rfl) vl) (Zq rfl (QW.call gofn75 (.cons (.tmp rfl) (.cons (.tmp rfl) .nil)) (vcmp_ok Vc.self Vc.self hw hw2)) (Zq rfl (QW.move (.tmp rfl)) ?_)))))))
  refine Zq rfl (QW.extract (.tmp rfl) rfl) (Zq rfl (QW.extract (.tmp rfl) rfl) (Zq rfl (QW.assign (.tmp rfl)) (Zq rfl (QW.assign (.tmp rfl)) (Zn (Zs (Zq rfl (QW.move (.tmp rfl)) (Zq rfl (QW.eql (.tmp rfl) .const) (Zq rfl (QW.move (.tmp rfl)) (Zg rfl (fun hg => (QW.move (.tmp rfl))) ?_)))))))))
  exact Zg rfl (fun hg => (QW.eql (.when rfl hg) .const)) (Zq rfl (QW.pick_and (.tmp rfl) (.tmp rfl)) (Zq rfl (QW.assign (.tmp rfl)) (Zn (J.ret (Zr [.k, .k] (RetEv.one rfl (REv.tmp rfl lr)) rfl ⟨by unfold V.one; rfl, rfl⟩)))))
theorem rvone_ok {fr fr2 : Bool} {v u : V} {ys zs : List AV} (hv : Vc fr v ys) (hu : Vc fr2 u zs) (hw : v.wf) (hw2 : u.wf) : Fn Tryz.prog 82 [.agg ys, .agg zs] (.c (.bool (v.one u))) := by
  subst hv hu
  refine AC.of_J Tryz.func82 rfl Tryz.ntmps82 rfl fun w0 A0 => ?_
  refine Zs (JL.box_agg (.tmp rfl) rfl fun b2 => JL.box_agg (.tmp rfl) rfl fun b3 => Zq rfl (QW.assign .const) (Zn (Zs (Zq rfl (QW.load_box 1 ty29 (.tmp rfl) rfl (take_at vl rfl) vl) (Zq rfl (QW.call gofn20 (.cons (.tmp rfl) .nil) (rcheck_ok Vc.self hw)) (Zq rfl (QW.eql (.tmp rfl) .const) (Zq rfl (QW.move (.tmp rfl)) ?_)))))))
  refine Zg rfl (fun hg => (QW.load_box 0 ty29 (.tmp rfl) rfl (take_at vl rfl) vl)) (Zg rfl (fun hg => (QW.call gofn20 (.cons (.when rfl hg) .nil) (rcheck_ok Vc.self hw2))) (Zg rfl (fun hg => (QW.eql (.when rfl hg) .const)) (Zq rfl (QW.pick_and (.tmp rfl) (.tmp rfl)) (Zq rfl (QW.move (.tmp rfl)) (Zg rfl (fun hg => (QW.load_box 1 ty29 (.tmp rfl) rfl (take_at vl rfl) vl)) (Zg rfl (fun hg => (QW.load_box 0 ty29 (.tmp rfl) rfl (take_at vl rfl) vl)) (Zg rfl (fun hg => (QW.call gofn109 (.cons (.when rfl hg) (.cons (.when rfl hg) .nil)) (rvorder_ok Vc.self Vc.self hw hw2 (V.fine_of (by simp at hg; exact hg.1)) (V.fine_of (by simp at hg; exact hg.2))))) ?_)))))))
  exact Zg rfl (fun hg => (QW.eql (.when rfl hg) .const)) (Zq rfl (QW.pick_and (.tmp rfl) (.tmp rfl)) (Zq rfl (QW.assign (.tmp rfl)) (Zn (J.ret (Zr [.k, .k] (RetEv.one rfl (REv.tmp rfl lr)) rfl ⟨congrArg (fun b => Res.ret (.c (.bool b))) (by rw [Bool.eq_iff_iff]; unfold V.one V.cmp; by_cases h1 : v.err = 0 <;> by_cases h2 : u.err = 0 <;> simp [h1, h2]), rfl⟩)))))
end Go.Proofs.YtjhonjdhanlbkaaGreat.J

/- Walks: operations whose parts are all reckoned. -/
namespace Go.Proofs.YtjhonjdhanlbkaaGreat.J
open Go Go.RowKit
set_option maxRecDepth 10000
set_option maxHeartbeats 4000000
theorem pe11 {o : Int} (ho : o = 11 ∨ o = 12 ∨ o = 13 ∨ o = 14) (t : Str) (a b : V) : plainE o t [a, b] = if a.kind ≠ 2 ∨ b.kind ≠ 2 then .error 81 else .ok (.nu (arO o a.bits b.bits)) := by
  rcases ho with rfl | rfl | rfl | rfl <;> rfl
theorem pe15 (t : Str) (a : V) : plainE 15 t [a] = if a.kind = 2 then .ok (.nu (floorC a.bits)) else .error 81 := rfl
theorem pe16 (t : Str) (a b : V) : plainE 16 t [a, b] = .ok (.tr (a.ord b == 0)) := rfl
theorem pe17 (t : Str) (a b : V) : plainE 17 t [a, b] = if b.kind = a.kind then .ok (.tr (decide (a.ord b < 0))) else .error 81 := rfl
theorem pe20 (t : Str) (a : V) : plainE 20 t [a] = if a.kind = 1 then .ok (.tr (a.bits == 0)) else .error 81 := rfl
theorem pe22 (t : Str) (a b : V) : plainE 22 t [a, b] = if a.kind ≠ 3 ∨ b.kind ≠ 3 then .error 81 else if 128 < a.text.length + b.text.length then .error 84 else .ok (.tx (a.text ++ b.text)) := rfl
theorem pe26 (t : Str) (a : V) : plainE 26 t [a] = if a.kind ≠ 2 then .error 81 else if intE a.bits ≠ 0 then .error 7 else .ok (.tx (intD (intV a.bits))) := rfl
theorem plain_ok {fr : Bool} {o : Int} {bb : Nat} {t : Str} {args : List EX} {l : List V} {ys : List AV} (he : Xc fr (.mk o bb t args) ys) (ht : t.length ≤ reach) (hl : ∀ x ∈ l, x.good) (hn : l.length ≤ 8 ∧ (o = 23 ∨ ((o = 8 ∨ o = 10 ∨ o = 15 ∨ o = 20 ∨ o = 26) ∧ l.length = 1) ∨ ((o = 9 ∨ o = 11 ∨ o = 12 ∨ o = 13 ∨ o = 14 ∨ o = 16 ∨ o = 17 ∨ o = 22 ∨ o = 24 ∨ o = 25) ∧ l.length = 2))) :
    AC Tryz.prog 50 [] [.agg ys, .sl false false eV (V.css false l)] (PlR (plainE o t l)) := by
  subst he
  obtain ⟨hn8, hn⟩ := hn
  refine AC.of_J Tryz.func50 rfl Tryz.ntmps50 rfl fun w0 A0 => ?_
  refine Zs (JL.box_agg (.tmp rfl) rfl fun b2 => JL.alloc z29 rfl rfl fun b4 => Zn (J.seq (Zs (Zq rfl (QW.field_ptr fo34_0 (.tmp rfl) rfl) (Zq rfl (QW.load_box1 1 ty3 (.tmp rfl) rfl rfl) (Zn (J.block ?_)))))))
  refine J.seq (Zs (Zq rfl (QW.eql (.tmp rfl) .const) (Zq rfl (QW.assign (.tmp rfl)) (Zn ?_))))
  refine J.cond (.tmp rfl) (fun c1 => ?_) (fun c1 => ?_)
  · skip
    have ho : o = 11 ∨ o = 12 ∨ o = 13 ∨ o = 14 := by (simp at c1; omega)
    obtain ⟨a, b, rfl⟩ := two_of (l := l) (by omega)
    have ha := hl a (by simp)
    have hb := hl b (by simp)
    refine Zk ?_
    refine J.cond (.tmp rfl) (fun c2 => ?_) (fun c2 => absurd c2 (by rw [c1]; decide))
    refine Zs (Zq rfl (QW.move (.tmp rfl)) (Zq rfl (QW.buildSlice (idx := [0, 1]) (xs := intsAV [2, 2]) sl130 el3 z3 rfl (.cons .const (.cons .const .nil)) rfl rfl rfl rfl rfl rfl rfl rfl rfl) ?_))
    refine JL.callPF [] gofn71 rfl Lent.nil (fun _ => (.cons (.tmp rfl) (.cons (.tmp rfl) .nil))) (kinds_ok _ [2, 2] (by simp) (by simp)) (.inl rfl) (fun k18 x18 o18 h18 => ?_) (fun k18 => ?_)
    rotate_left
    · skip
      refine thenQ.p (blkQ.p (thenQ.p ?_))
      exact ⟨_, selP [.k, .k] _, _, rfl, rfl, sel_perm [.k, .k] _, PlR.er (c := 81) ((pe11 ho t a b).trans (if_pos (by simp [kindsB] at k18; omega))) (by decide)⟩
    obtain ⟨rfl, rfl⟩ := h18
    refine Zn (J.seq (J.regionX mixed (Zf 0 [] rfl (fun _ => QW.field_ptr fo34_0 (.tmp rfl) rfl) (Zo 1 1 [19] rfl (fun _ ho_ => QW.load_box1 1 ty3 (.tmp rfl) ho_ rfl) (Zf 2 [] rfl (fun _ => QW.move (.tmp rfl)) (Zf 3 [21] rfl (fun _ => QW.index_sl sl27 ty29 rfl (.tmp rfl) .const rfl rfl) (Zf 4 [22] rfl (fun _ => QW.field_ref fo29_1 (.tmp rfl) rfl) (Zf 5 [23] rfl (fun _ => QW.load_ref1 ty22 (.tmp rfl) (V.cs_1 _ _)) (Zf 6 [] rfl (fun _ => QW.move (.tmp rfl)) ?_)))))))))
    refine Zf 7 [25] rfl (fun _ => QW.index_sl sl27 ty29 rfl (.tmp rfl) .const rfl rfl) (Zf 8 [26] rfl (fun _ => QW.field_ref fo29_1 (.tmp rfl) rfl) (Zf 9 [27] rfl (fun _ => QW.load_ref1 ty22 (.tmp rfl) (V.cs_1 _ _)) (Zf 10 [20, 24, 28] rfl (fun _ => QW.call gofn72 (.cons (.tmp rfl) (.cons (.tmp rfl) (.cons (.tmp rfl) .nil))) (arith_ok _ _ _)) (JX.one 11 [true, true, true, true, true, true, true, true, true, true, true] rfl (by kernel_rfl) (by kernel_rfl) rfl rfl (by kernel_rfl) rfl fun bs11_ pe_ ex_ => ?_))))
    refine JL.conv (by (try simp only [vlF, bxF, tkM, lvM, Flt.val, Flt.bx, nx, nl, stepsO, valO, nthO, curO, mrg, AV.cellsOf, splice_zero, splice_succ, Nat.reduceAdd]); rfl) ?_
    refine JL.store_boxF 0 ty29 (.tmp rfl) rfl (.tmp rfl) rfl rfl rfl rfl (JL.nil ?_)
    refine thenQ.n ⟨[], _, rfl, rfl, rfl, rfl, rfl, Reown.tkN 2 rfl, trivial, trivial, ?_⟩
    refine JX.conv (S' := [11, 10, 9, 8, 7, 6, 5, 4, 3, 2, 1, 0]) rfl (by (try simp only [lvM]); rfl) (by (try simp only [vlF, bxF, tkM, lvM, Flt.val, Flt.bx, nx, nl, stepsO, valO, nthO, curO, mrg, AV.cellsOf, splice_zero, splice_succ, Nat.reduceAdd]); rfl) ?_
    refine JX.fin (by kernel_rfl) (by kernel_rfl) fun bs_ => ?_
    refine QX.conv (by (try simp only [vlF, bxF, tkM, lvM, Flt.val, Flt.bx, nx, nl, stepsO, valO, nthO, curO, mrg, AV.cellsOf, splice_zero, splice_succ, Nat.reduceAdd]); rfl) ?_
    exact thenQ.n (J.ret (blkQ.r (thenQ.r (Zr [.k, .k] (RetEv.one rfl (REv.cell 0 ty29 rfl rfl rfl rfl lr)) rfl (PlR.ok ((pe11 ho t a b).trans (if_neg (by simp [kindsB] at k18; omega))))))))
  have n11 : ¬ o = 11 := by simpa using c1
  refine Zs (Zq rfl (QW.eql (.tmp rfl) .const) (Zq rfl (QW.assign (.tmp rfl)) (Zn ?_)))
  refine J.cond (.tmp rfl) (fun c2 => ?_) (fun c2 => ?_)
  · skip
    have ho : o = 11 ∨ o = 12 ∨ o = 13 ∨ o = 14 := by (simp at c2; omega)
    obtain ⟨a, b, rfl⟩ := two_of (l := l) (by omega)
    have ha := hl a (by simp)
    have hb := hl b (by simp)
    refine Zk ?_
    refine J.cond (.tmp rfl) (fun c3 => ?_) (fun c3 => absurd c3 (by rw [c2]; decide))
    refine Zs (Zq rfl (QW.move (.tmp rfl)) (Zq rfl (QW.buildSlice (idx := [0, 1]) (xs := intsAV [2, 2]) sl130 el3 z3 rfl (.cons .const (.cons .const .nil)) rfl rfl rfl rfl rfl rfl rfl rfl rfl) ?_))
    refine JL.callPF [] gofn71 rfl Lent.nil (fun _ => (.cons (.tmp rfl) (.cons (.tmp rfl) .nil))) (kinds_ok _ [2, 2] (by simp) (by simp)) (.inl rfl) (fun k18 x18 o18 h18 => ?_) (fun k18 => ?_)
    rotate_left
    · skip
      refine thenQ.p (blkQ.p (thenQ.p ?_))
      exact ⟨_, selP [.k, .k] _, _, rfl, rfl, sel_perm [.k, .k] _, PlR.er (c := 81) ((pe11 ho t a b).trans (if_pos (by simp [kindsB] at k18; omega))) (by decide)⟩
    obtain ⟨rfl, rfl⟩ := h18
    refine Zn (J.seq (J.regionX mixed (Zf 0 [] rfl (fun _ => QW.field_ptr fo34_0 (.tmp rfl) rfl) (Zo 1 1 [19] rfl (fun _ ho_ => QW.load_box1 1 ty3 (.tmp rfl) ho_ rfl) (Zf 2 [] rfl (fun _ => QW.move (.tmp rfl)) (Zf 3 [21] rfl (fun _ => QW.index_sl sl27 ty29 rfl (.tmp rfl) .const rfl rfl) (Zf 4 [22] rfl (fun _ => QW.field_ref fo29_1 (.tmp rfl) rfl) (Zf 5 [23] rfl (fun _ => QW.load_ref1 ty22 (.tmp rfl) (V.cs_1 _ _)) (Zf 6 [] rfl (fun _ => QW.move (.tmp rfl)) ?_)))))))))
    refine Zf 7 [25] rfl (fun _ => QW.index_sl sl27 ty29 rfl (.tmp rfl) .const rfl rfl) (Zf 8 [26] rfl (fun _ => QW.field_ref fo29_1 (.tmp rfl) rfl) (Zf 9 [27] rfl (fun _ => QW.load_ref1 ty22 (.tmp rfl) (V.cs_1 _ _)) (Zf 10 [20, 24, 28] rfl (fun _ => QW.call gofn72 (.cons (.tmp rfl) (.cons (.tmp rfl) (.cons (.tmp rfl) .nil))) (arith_ok _ _ _)) (JX.one 11 [true, true, true, true, true, true, true, true, true, true, true] rfl (by kernel_rfl) (by kernel_rfl) rfl rfl (by kernel_rfl) rfl fun bs11_ pe_ ex_ => ?_))))
    refine JL.conv (by (try simp only [vlF, bxF, tkM, lvM, Flt.val, Flt.bx, nx, nl, stepsO, valO, nthO, curO, mrg, AV.cellsOf, splice_zero, splice_succ, Nat.reduceAdd]); rfl) ?_
    refine JL.store_boxF 0 ty29 (.tmp rfl) rfl (.tmp rfl) rfl rfl rfl rfl (JL.nil ?_)
    refine thenQ.n ⟨[], _, rfl, rfl, rfl, rfl, rfl, Reown.tkN 2 rfl, trivial, trivial, ?_⟩
    refine JX.conv (S' := [11, 10, 9, 8, 7, 6, 5, 4, 3, 2, 1, 0]) rfl (by (try simp only [lvM]); rfl) (by (try simp only [vlF, bxF, tkM, lvM, Flt.val, Flt.bx, nx, nl, stepsO, valO, nthO, curO, mrg, AV.cellsOf, splice_zero, splice_succ, Nat.reduceAdd]); rfl) ?_
    refine JX.fin (by kernel_rfl) (by kernel_rfl) fun bs_ => ?_
    refine QX.conv (by (try simp only [vlF, bxF, tkM, lvM, Flt.val, Flt.bx, nx, nl, stepsO, valO, nthO, curO, mrg, AV.cellsOf, splice_zero, splice_succ, Nat.reduceAdd]); rfl) ?_
    exact thenQ.n (J.ret (blkQ.r (thenQ.r (Zr [.k, .k] (RetEv.one rfl (REv.cell 0 ty29 rfl rfl rfl rfl lr)) rfl (PlR.ok ((pe11 ho t a b).trans (if_neg (by simp [kindsB] at k18; omega))))))))
  have n12 : ¬ o = 12 := by simpa using c2
  refine Zs (Zq rfl (QW.eql (.tmp rfl) .const) (Zq rfl (QW.assign (.tmp rfl)) (Zn ?_)))
  refine J.cond (.tmp rfl) (fun c3 => ?_) (fun c3 => ?_)
  · skip
    have ho : o = 11 ∨ o = 12 ∨ o = 13 ∨ o = 14 := by (simp at c3; omega)
    obtain ⟨a, b, rfl⟩ := two_of (l := l) (by omega)
    have ha := hl a (by simp)
    have hb := hl b (by simp)
    refine Zk ?_
    refine J.cond (.tmp rfl) (fun c4 => ?_) (fun c4 => absurd c4 (by rw [c3]; decide))
    refine Zs (Zq rfl (QW.move (.tmp rfl)) (Zq rfl (QW.buildSlice (idx := [0, 1]) (xs := intsAV [2, 2]) sl130 el3 z3 rfl (.cons .const (.cons .const .nil)) rfl rfl rfl rfl rfl rfl rfl rfl rfl) ?_))
    refine JL.callPF [] gofn71 rfl Lent.nil (fun _ => (.cons (.tmp rfl) (.cons (.tmp rfl) .nil))) (kinds_ok _ [2, 2] (by simp) (by simp)) (.inl rfl) (fun k18 x18 o18 h18 => ?_) (fun k18 => ?_)
    rotate_left
    · skip
      refine thenQ.p (blkQ.p (thenQ.p ?_))
      exact ⟨_, selP [.k, .k] _, _, rfl, rfl, sel_perm [.k, .k] _, PlR.er (c := 81) ((pe11 ho t a b).trans (if_pos (by simp [kindsB] at k18; omega))) (by decide)⟩
    obtain ⟨rfl, rfl⟩ := h18
    refine Zn (J.seq (J.regionX mixed (Zf 0 [] rfl (fun _ => QW.field_ptr fo34_0 (.tmp rfl) rfl) (Zo 1 1 [19] rfl (fun _ ho_ => QW.load_box1 1 ty3 (.tmp rfl) ho_ rfl) (Zf 2 [] rfl (fun _ => QW.move (.tmp rfl)) (Zf 3 [21] rfl (fun _ => QW.index_sl sl27 ty29 rfl (.tmp rfl) .const rfl rfl) (Zf 4 [22] rfl (fun _ => QW.field_ref fo29_1 (.tmp rfl) rfl) (Zf 5 [23] rfl (fun _ => QW.load_ref1 ty22 (.tmp rfl) (V.cs_1 _ _)) (Zf 6 [] rfl (fun _ => QW.move (.tmp rfl)) ?_)))))))))
    refine Zf 7 [25] rfl (fun _ => QW.index_sl sl27 ty29 rfl (.tmp rfl) .const rfl rfl) (Zf 8 [26] rfl (fun _ => QW.field_ref fo29_1 (.tmp rfl) rfl) (Zf 9 [27] rfl (fun _ => QW.load_ref1 ty22 (.tmp rfl) (V.cs_1 _ _)) (Zf 10 [20, 24, 28] rfl (fun _ => QW.call gofn72 (.cons (.tmp rfl) (.cons (.tmp rfl) (.cons (.tmp rfl) .nil))) (arith_ok _ _ _)) (JX.one 11 [true, true, true, true, true, true, true, true, true, true, true] rfl (by kernel_rfl) (by kernel_rfl) rfl rfl (by kernel_rfl) rfl fun bs11_ pe_ ex_ => ?_))))
    refine JL.conv (by (try simp only [vlF, bxF, tkM, lvM, Flt.val, Flt.bx, nx, nl, stepsO, valO, nthO, curO, mrg, AV.cellsOf, splice_zero, splice_succ, Nat.reduceAdd]); rfl) ?_
    refine JL.store_boxF 0 ty29 (.tmp rfl) rfl (.tmp rfl) rfl rfl rfl rfl (JL.nil ?_)
    refine thenQ.n ⟨[], _, rfl, rfl, rfl, rfl, rfl, Reown.tkN 2 rfl, trivial, trivial, ?_⟩
    refine JX.conv (S' := [11, 10, 9, 8, 7, 6, 5, 4, 3, 2, 1, 0]) rfl (by (try simp only [lvM]); rfl) (by (try simp only [vlF, bxF, tkM, lvM, Flt.val, Flt.bx, nx, nl, stepsO, valO, nthO, curO, mrg, AV.cellsOf, splice_zero, splice_succ, Nat.reduceAdd]); rfl) ?_
    refine JX.fin (by kernel_rfl) (by kernel_rfl) fun bs_ => ?_
    refine QX.conv (by (try simp only [vlF, bxF, tkM, lvM, Flt.val, Flt.bx, nx, nl, stepsO, valO, nthO, curO, mrg, AV.cellsOf, splice_zero, splice_succ, Nat.reduceAdd]); rfl) ?_
    exact thenQ.n (J.ret (blkQ.r (thenQ.r (Zr [.k, .k] (RetEv.one rfl (REv.cell 0 ty29 rfl rfl rfl rfl lr)) rfl (PlR.ok ((pe11 ho t a b).trans (if_neg (by simp [kindsB] at k18; omega))))))))
  have n13 : ¬ o = 13 := by simpa using c3
  refine J.region_lit (Zq rfl (QW.eql (.tmp rfl) .const) (Zq rfl (QW.assign (.tmp rfl)) (Zn ?_)))
  refine J.cond (.tmp rfl) (fun c4 => ?_) (fun c4 => ?_)
  · skip
    have ho : o = 11 ∨ o = 12 ∨ o = 13 ∨ o = 14 := by (simp at c4; omega)
    obtain ⟨a, b, rfl⟩ := two_of (l := l) (by omega)
    have ha := hl a (by simp)
    have hb := hl b (by simp)
    refine Zs (Zq rfl (QW.move (.tmp rfl)) (Zq rfl (QW.buildSlice (idx := [0, 1]) (xs := intsAV [2, 2]) sl130 el3 z3 rfl (.cons .const (.cons .const .nil)) rfl rfl rfl rfl rfl rfl rfl rfl rfl) ?_))
    refine JL.callPF [] gofn71 rfl Lent.nil (fun _ => (.cons (.tmp rfl) (.cons (.tmp rfl) .nil))) (kinds_ok _ [2, 2] (by simp) (by simp)) (.inl rfl) (fun k18 x18 o18 h18 => ?_) (fun k18 => ?_)
    rotate_left
    · skip
      refine thenQ.p (blkQ.p (thenQ.p ?_))
      exact ⟨_, selP [.k, .k] _, _, rfl, rfl, sel_perm [.k, .k] _, PlR.er (c := 81) ((pe11 ho t a b).trans (if_pos (by simp [kindsB] at k18; omega))) (by decide)⟩
    obtain ⟨rfl, rfl⟩ := h18
    refine Zn (J.seq (J.regionX mixed (Zf 0 [] rfl (fun _ => QW.field_ptr fo34_0 (.tmp rfl) rfl) (Zo 1 1 [19] rfl (fun _ ho_ => QW.load_box1 1 ty3 (.tmp rfl) ho_ rfl) (Zf 2 [] rfl (fun _ => QW.move (.tmp rfl)) (Zf 3 [21] rfl (fun _ => QW.index_sl sl27 ty29 rfl (.tmp rfl) .const rfl rfl) (Zf 4 [22] rfl (fun _ => QW.field_ref fo29_1 (.tmp rfl) rfl) (Zf 5 [23] rfl (fun _ => QW.load_ref1 ty22 (.tmp rfl) (V.cs_1 _ _)) (Zf 6 [] rfl (fun _ => QW.move (.tmp rfl)) ?_)))))))))
    refine Zf 7 [25] rfl (fun _ => QW.index_sl sl27 ty29 rfl (.tmp rfl) .const rfl rfl) (Zf 8 [26] rfl (fun _ => QW.field_ref fo29_1 (.tmp rfl) rfl) (Zf 9 [27] rfl (fun _ => QW.load_ref1 ty22 (.tmp rfl) (V.cs_1 _ _)) (Zf 10 [20, 24, 28] rfl (fun _ => QW.call gofn72 (.cons (.tmp rfl) (.cons (.tmp rfl) (.cons (.tmp rfl) .nil))) (arith_ok _ _ _)) (JX.one 11 [true, true, true, true, true, true, true, true, true, true, true] rfl (by kernel_rfl) (by kernel_rfl) rfl rfl (by kernel_rfl) rfl fun bs11_ pe_ ex_ => ?_))))
    refine JL.conv (by (try simp only [vlF, bxF, tkM, lvM, Flt.val, Flt.bx, nx, nl, stepsO, valO, nthO, curO, mrg, AV.cellsOf, splice_zero, splice_succ, Nat.reduceAdd]); rfl) ?_
    refine JL.store_boxF 0 ty29 (.tmp rfl) rfl (.tmp rfl) rfl rfl rfl rfl (JL.nil ?_)
    refine thenQ.n ⟨[], _, rfl, rfl, rfl, rfl, rfl, Reown.tkN 2 rfl, trivial, trivial, ?_⟩
    refine JX.conv (S' := [11, 10, 9, 8, 7, 6, 5, 4, 3, 2, 1, 0]) rfl (by (try simp only [lvM]); rfl) (by (try simp only [vlF, bxF, tkM, lvM, Flt.val, Flt.bx, nx, nl, stepsO, valO, nthO, curO, mrg, AV.cellsOf, splice_zero, splice_succ, Nat.reduceAdd]); rfl) ?_
    refine JX.fin (by kernel_rfl) (by kernel_rfl) fun bs_ => ?_
    refine QX.conv (by (try simp only [vlF, bxF, tkM, lvM, Flt.val, Flt.bx, nx, nl, stepsO, valO, nthO, curO, mrg, AV.cellsOf, splice_zero, splice_succ, Nat.reduceAdd]); rfl) ?_
    exact thenQ.n (J.ret (blkQ.r (thenQ.r (Zr [.k, .k] (RetEv.one rfl (REv.cell 0 ty29 rfl rfl rfl rfl lr)) rfl (PlR.ok ((pe11 ho t a b).trans (if_neg (by simp [kindsB] at k18; omega))))))))
  have n14 : ¬ o = 14 := by simpa using c4
  refine Zs (Zq rfl (QW.eql (.tmp rfl) .const) (Zq rfl (QW.assign (.tmp rfl)) (Zn ?_)))
  refine J.cond (.tmp rfl) (fun c5 => ?_) (fun c5 => ?_)
  · skip
    obtain rfl : o = 15 := by simpa using c5
    obtain ⟨a, rfl⟩ := one_of (l := l) (by omega)
    have ha := hl a (by simp)
    refine Zs (Zq rfl (QW.move (.tmp rfl)) (Zq rfl (QW.buildSlice (idx := [0]) (xs := intsAV [2]) sl130 el3 z3 rfl (.cons .const .nil) rfl rfl rfl rfl rfl rfl rfl rfl rfl) ?_))
    refine JL.callPF [] gofn71 rfl Lent.nil (fun _ => (.cons (.tmp rfl) (.cons (.tmp rfl) .nil))) (kinds_ok _ [2] (by simp) (by simp)) (.inl rfl) (fun k34 x34 o34 h34 => ?_) (fun k34 => ?_)
    rotate_left
    · skip
      refine thenQ.p (blkQ.p (thenQ.p ?_))
      exact ⟨_, selP [.k, .k] _, _, rfl, rfl, sel_perm [.k, .k] _, PlR.er (c := 81) ((pe15 t a).trans (if_neg (by simpa [kindsB] using k34))) (by decide)⟩
    obtain ⟨rfl, rfl⟩ := h34
    refine Zn (Zs (Zq rfl (QW.move (.tmp rfl)) (Zq rfl (QW.index_sl sl27 ty29 rfl (.tmp rfl) .const rfl rfl) (Zq rfl (QW.field_ref fo29_1 (.tmp rfl) rfl) (Zq rfl (QW.load_ref1 ty22 (.tmp rfl) (V.cs_1 _ _)) (Zq rfl (QW.call gofn73 (.cons (.tmp rfl) .nil) (floor_ok _)) (Zq rfl (QW.call gofn47 (.cons (.tmp rfl) .nil) (nof_ok _)) (JL.store_boxF 0 ty29 (.tmp rfl) rfl (.tmp rfl) rfl rfl rfl rfl (Zn ?_)))))))))
    exact J.ret (blkQ.r (thenQ.r (Zr [.k, .k] (RetEv.one rfl (REv.cell 0 ty29 rfl rfl rfl rfl lr)) rfl (PlR.ok ((pe15 t a).trans (if_pos (by simpa [kindsB] using k34)))))))
  have n15 : ¬ o = 15 := by simpa using c5
  refine Zs (Zq rfl (QW.eql (.tmp rfl) .const) (Zq rfl (QW.assign (.tmp rfl)) (Zn ?_)))
  refine J.cond (.tmp rfl) (fun c6 => ?_) (fun c6 => ?_)
  · skip
    obtain rfl : o = 16 := by simpa using c6
    obtain ⟨a, b, rfl⟩ := two_of (l := l) (by omega)
    have ha := hl a (by simp)
    have hb := hl b (by simp)
    refine J.seq (J.regionX mixed (Zf 0 [] rfl (fun _ => QW.move (.tmp rfl)) (Zf 1 [43] rfl (fun _ => QW.index_sl sl27 ty29 rfl (.tmp rfl) .const rfl rfl) (Zf 2 [44] rfl (fun _ => QW.load_ref ty29 (.tmp rfl) (take_at0 vl rfl) vl) (Zf 3 [] rfl (fun _ => QW.move (.tmp rfl)) (Zf 4 [46] rfl (fun _ => QW.index_sl sl27 ty29 rfl (.tmp rfl) .const rfl rfl) (Zf 5 [47] rfl (fun _ => QW.load_ref ty29 (.tmp rfl) (take_at0 vl rfl) vl) (Zf 6 [45, 48] rfl (fun _ => QW.call gofn74 (.cons (.tmp rfl) (.cons (.tmp rfl) .nil)) (vone_ok Vc.self Vc.self ha.wf hb.wf)) (Zf 7 [49] rfl (fun _ => QW.call gofn46 (.cons (.tmp rfl) .nil) (boolean_ok _)) ?_)))))))))
    refine JX.one 8 [true, true, true, true, true, true, true, true] rfl (by kernel_rfl) (by kernel_rfl) rfl rfl (by kernel_rfl) rfl fun bs8_ pe_ ex_ => ?_
    refine JL.conv (by (try simp only [vlF, bxF, tkM, lvM, Flt.val, Flt.bx, nx, nl, stepsO, valO, nthO, curO, mrg, AV.cellsOf, splice_zero, splice_succ, Nat.reduceAdd]); rfl) ?_
    refine JL.store_boxF 0 ty29 (.tmp rfl) rfl (.tmp rfl) rfl rfl rfl rfl (JL.nil ?_)
    refine thenQ.n ⟨[], _, rfl, rfl, rfl, rfl, rfl, Reown.tkN 2 rfl, trivial, trivial, ?_⟩
    refine JX.conv (S' := [8, 7, 6, 5, 4, 3, 2, 1, 0]) rfl (by (try simp only [lvM]); rfl) (by (try simp only [vlF, bxF, tkM, lvM, Flt.val, Flt.bx, nx, nl, stepsO, valO, nthO, curO, mrg, AV.cellsOf, splice_zero, splice_succ, Nat.reduceAdd]); rfl) ?_
    refine JX.fin (by kernel_rfl) (by kernel_rfl) fun bs_ => ?_
    refine QX.conv (by (try simp only [vlF, bxF, tkM, lvM, Flt.val, Flt.bx, nx, nl, stepsO, valO, nthO, curO, mrg, AV.cellsOf, splice_zero, splice_succ, Nat.reduceAdd]); rfl) ?_
    exact thenQ.n (J.ret (blkQ.r (thenQ.r (Zr [.k, .k] (RetEv.one rfl (REv.cell 0 ty29 rfl rfl (take_at vl rfl) vl lr)) rfl (PlR.ok ((pe16 t a b).trans (by rw [V.one, V.cmp, if_neg (by simp [ha.err]), if_neg (by simp [hb.err])]; simp)))))))
  have n16 : ¬ o = 16 := by simpa using c6
  refine Zs (Zq rfl (QW.eql (.tmp rfl) .const) (Zq rfl (QW.assign (.tmp rfl)) (Zn ?_)))
  refine J.cond (.tmp rfl) (fun c7 => ?_) (fun c7 => ?_)
  · skip
    obtain rfl : o = 17 := by simpa using c7
    obtain ⟨a, b, rfl⟩ := two_of (l := l) (by omega)
    have ha := hl a (by simp)
    have hb := hl b (by simp)
    refine J.seq (J.regionX mixed (Zf 0 [] rfl (fun _ => QW.move (.tmp rfl)) (Zf 1 [53] rfl (fun _ => QW.slice_L (l := 1) sl27 ty29 rfl (.tmp rfl) .const rfl (by rw [V.css_length]; simp)) ?_)))
    refine Zf 2 [] rfl (fun _ => QW.move (.tmp rfl)) (Zf 3 [55] rfl (fun _ => QW.index_sl sl27 ty29 rfl (.tmp rfl) .const rfl rfl) (Zf 4 [56] rfl (fun _ => QW.field_ref fo29_0 (.tmp rfl) rfl) (Zf 5 [57] rfl (fun _ => QW.load_ref1 ty3 (.tmp rfl) (V.cs_0 _ _)) (Zf 6 [58] rfl (fun _ => QW.buildSlice (idx := [0]) (xs := intsAV [a.kind]) sl130 el3 z3 rfl (.cons (.tmp rfl) .nil) rfl rfl rfl rfl rfl rfl rfl rfl rfl) (JX.one 7 [true, true, true, true, true, true, true] rfl (by kernel_rfl) (by kernel_rfl) rfl rfl (by kernel_rfl) rfl fun bs7_ pe_ ex_ => ?_)))))
    refine JL.conv (by (try simp only [vlF, bxF, tkM, lvM, Flt.val, Flt.bx, nx, nl, stepsO, valO, nthO, curO, mrg, AV.cellsOf, splice_zero, splice_succ, Nat.reduceAdd]); rfl) ?_
    refine JL.callPF [] gofn71 rfl Lent.nil (fun _ => (.cons (.tmp rfl) (.cons (.tmp rfl) .nil))) (kinds_ok [b] [a.kind] (by simp) (by simp)) (.inl rfl) (fun k60 x60 o60 h60 => ?_) (fun k60 => ?_)
    rotate_left
    · skip
      refine thenQ.p (thenQ.p (blkQ.p (thenQ.p ?_)))
      exact ⟨_, selP [.k, .k] _, _, rfl, rfl, sel_perm [.k, .k] _, PlR.er (c := 81) ((pe17 t a b).trans (if_neg (by simpa [kindsB] using k60))) (by decide)⟩
    obtain ⟨rfl, rfl⟩ := h60
    refine JL.nil ?_
    refine thenQ.n ⟨[_], _, rfl, rfl, rfl, rfl, rfl, Reown.mrgN 2 rfl rfl, ⟨rfl, rfl⟩, trivial, ?_⟩
    refine JX.conv (S' := [7, 6, 5, 4, 3, 2, 1, 0]) rfl (by (try simp only [lvM]); rfl) (by (try simp only [vlF, bxF, tkM, lvM, Flt.val, Flt.bx, nx, nl, stepsO, valO, nthO, curO, mrg, AV.cellsOf, splice_zero, splice_succ, Nat.reduceAdd]); rfl) ?_
    refine JX.fin (by kernel_rfl) (by kernel_rfl) fun bs_ => ?_
    refine QX.conv (by (try simp only [vlF, bxF, tkM, lvM, Flt.val, Flt.bx, nx, nl, stepsO, valO, nthO, curO, mrg, AV.cellsOf, splice_zero, splice_succ, Nat.reduceAdd]); rfl) ?_
    refine thenQ.n (J.seq (J.regionX mixed (Zf 0 [] rfl (fun _ => QW.move (.tmp rfl)) (Zf 1 [62] rfl (fun _ => QW.index_sl sl27 ty29 rfl (.tmp rfl) .const rfl rfl) (Zf 2 [63] rfl (fun _ => QW.load_ref ty29 (.tmp rfl) (take_at0 vl rfl) vl) (Zf 3 [] rfl (fun _ => QW.move (.tmp rfl)) (Zf 4 [65] rfl (fun _ => QW.index_sl sl27 ty29 rfl (.tmp rfl) .const rfl rfl) (Zf 5 [66] rfl (fun _ => QW.load_ref ty29 (.tmp rfl) (take_at0 vl rfl) vl) (Zf 6 [64, 67] rfl (fun _ => QW.call gofn75 (.cons (.tmp rfl) (.cons (.tmp rfl) .nil)) (vcmp_ok Vc.self Vc.self ha.wf hb.wf)) ?_)))))))))
    refine Zf 7 [68] rfl (fun _ => QW.move (.tmp rfl)) (Zf 8 [61] rfl (fun _ => QW.extract (.tmp rfl) rfl) (Zf 9 [61] rfl (fun _ => QW.extract (.tmp rfl) rfl) (Zf 10 [69] rfl (fun _ => QW.assign (.tmp rfl)) (Zf 11 [70] rfl (fun _ => QW.assign (.tmp rfl)) (JX.fin (by kernel_rfl) (by kernel_rfl) fun bs_ => ?_)))))
    refine QX.conv (by (try simp only [vlF, bxF, tkM, lvM, Flt.val, Flt.bx, nx, nl, stepsO, valO, nthO, curO, mrg, AV.cellsOf, splice_zero, splice_succ, Nat.reduceAdd]); rfl) ?_
    exact thenQ.n (Zs (Zq rfl (QW.move (.tmp rfl)) (Zq rfl (QW.lss (.tmp rfl) .const) (Zq rfl (QW.call gofn46 (.cons (.tmp rfl) .nil) (boolean_ok _)) (JL.store_boxF 0 ty29 (.tmp rfl) rfl (.tmp rfl) rfl rfl rfl rfl (Zn (J.ret (blkQ.r (thenQ.r (Zr [.k, .k] (RetEv.one rfl (REv.cell 0 ty29 rfl rfl (take_at vl rfl) vl lr)) rfl (PlR.ok ((pe17 t a b).trans (by rw [if_pos (by simpa [kindsB] using k60), V.cmp, if_neg (by simp [ha.err]), if_neg (by simp [hb.err])])))))))))))))
  have n17 : ¬ o = 17 := by simpa using c7
  refine Zs (Zq rfl (QW.eql (.tmp rfl) .const) (Zq rfl (QW.assign (.tmp rfl)) (Zn ?_)))
  refine J.cond (.tmp rfl) (fun c8 => ?_) (fun c8 => ?_)
  · skip
    obtain rfl : o = 20 := by simpa using c8
    obtain ⟨a, rfl⟩ := one_of (l := l) (by omega)
    have ha := hl a (by simp)
    refine Zs (Zq rfl (QW.move (.tmp rfl)) (Zq rfl (QW.buildSlice (idx := [0]) (xs := intsAV [1]) sl130 el3 z3 rfl (.cons .const .nil) rfl rfl rfl rfl rfl rfl rfl rfl rfl) ?_))
    refine JL.callPF [] gofn71 rfl Lent.nil (fun _ => (.cons (.tmp rfl) (.cons (.tmp rfl) .nil))) (kinds_ok _ [1] (by simp) (by simp)) (.inl rfl) (fun k78 x78 o78 h78 => ?_) (fun k78 => ?_)
    rotate_left
    · skip
      refine thenQ.p (blkQ.p (thenQ.p ?_))
      exact ⟨_, selP [.k, .k] _, _, rfl, rfl, sel_perm [.k, .k] _, PlR.er (c := 81) ((pe20 t a).trans (if_neg (by simpa [kindsB] using k78))) (by decide)⟩
    obtain ⟨rfl, rfl⟩ := h78
    refine Zn (Zs (Zq rfl (QW.move (.tmp rfl)) (Zq rfl (QW.index_sl sl27 ty29 rfl (.tmp rfl) .const rfl rfl) (Zq rfl (QW.field_ref fo29_1 (.tmp rfl) rfl) (Zq rfl (QW.load_ref1 ty22 (.tmp rfl) (V.cs_1 _ _)) (Zq rfl ((QW.eql (.tmp rfl) .const).conv (show _ = AV.c (.bool (a.bits == 0)) by rw [show ((a.bits : Int) == 0) = (a.bits == 0) by rw [Bool.eq_iff_iff]; simp])) ?_))))))
    exact Zq rfl (QW.call gofn46 (.cons (.tmp rfl) .nil) (boolean_ok _)) (JL.store_boxF 0 ty29 (.tmp rfl) rfl (.tmp rfl) rfl rfl rfl rfl (Zn (J.ret (blkQ.r (thenQ.r (Zr [.k, .k] (RetEv.one rfl (REv.cell 0 ty29 rfl rfl rfl rfl lr)) rfl (PlR.ok ((pe20 t a).trans (if_pos (by simpa [kindsB] using k78))))))))))
  have n20 : ¬ o = 20 := by simpa using c8
  refine Zs (Zq rfl (QW.eql (.tmp rfl) .const) (Zq rfl (QW.assign (.tmp rfl)) (Zn ?_)))
  refine J.cond (.tmp rfl) (fun c9 => ?_) (fun c9 => ?_)
  · skip
    obtain rfl : o = 22 := by simpa using c9
    obtain ⟨a, b, rfl⟩ := two_of (l := l) (by omega)
    have ha := hl a (by simp)
    have hb := hl b (by simp)
    have h1 := partOk_txt ha.fine.part
    have h2 := partOk_txt hb.fine.part
    refine Zs (Zq rfl (QW.move (.tmp rfl)) (Zq rfl (QW.buildSlice (idx := [0, 1]) (xs := intsAV [3, 3]) sl130 el3 z3 rfl (.cons .const (.cons .const .nil)) rfl rfl rfl rfl rfl rfl rfl rfl rfl) ?_))
    refine JL.callPF [] gofn71 rfl Lent.nil (fun _ => (.cons (.tmp rfl) (.cons (.tmp rfl) .nil))) (kinds_ok _ [3, 3] (by simp) (by simp)) (.inl rfl) (fun k89 x89 o89 h89 => ?_) (fun k89 => ?_)
    rotate_left
    · skip
      refine thenQ.p (blkQ.p (thenQ.p ?_))
      exact ⟨_, selP [.k, .k] _, _, rfl, rfl, sel_perm [.k, .k] _, PlR.er (c := 81) ((pe22 t a b).trans (if_pos (by simp [kindsB] at k89; omega))) (by decide)⟩
    obtain ⟨rfl, rfl⟩ := h89
    refine Zn (J.seq (J.regionX mixed (Zf 0 [] rfl (fun _ => QW.move (.tmp rfl)) (Zf 1 [90] rfl (fun _ => QW.index_sl sl27 ty29 rfl (.tmp rfl) .const rfl rfl) (Zf 2 [91] rfl (fun _ => QW.field_ref fo29_2 (.tmp rfl) rfl) (Zf 3 [92] rfl (fun _ => QW.load_ref1 ty9 (.tmp rfl) (V.cs_2 _ _)) (Zf 4 [93] rfl (fun _ => QW.len_s st9 (.tmp rfl)) (Zf 5 [] rfl (fun _ => QW.move (.tmp rfl)) (Zf 6 [95] rfl (fun _ => QW.index_sl sl27 ty29 rfl (.tmp rfl) .const rfl rfl) ?_)))))))))
    refine Zf 7 [96] rfl (fun _ => QW.field_ref fo29_2 (.tmp rfl) rfl) (Zf 8 [97] rfl (fun _ => QW.load_ref1 ty9 (.tmp rfl) (V.cs_2 _ _)) (Zf 9 [98] rfl (fun _ => QW.len_s st9 (.tmp rfl)) (Zf 10 [94, 99] rfl (fun _ => QW.add (.tmp rfl) (.tmp rfl) (w64 (by omega))) (Zf 11 [100] rfl (fun _ => QW.leq (.tmp rfl) .const) (JX.one 12 [true, true, true, true, true, true, true, true, true, true, true, true] rfl (by kernel_rfl) (by kernel_rfl) rfl rfl (by kernel_rfl) rfl fun bs12_ pe_ ex_ => ?_)))))
    refine JL.conv (by (try simp only [vlF, bxF, tkM, lvM, Flt.val, Flt.bx, nx, nl, stepsO, valO, nthO, curO, mrg, AV.cellsOf, splice_zero, splice_succ, Nat.reduceAdd]); rfl) ?_
    refine JL.callPF [] gofn45 rfl Lent.nil (fun _ => (.cons (.tmp rfl) (.cons .const .nil))) (nd_ok _ _) (.inl rfl) (fun k102 x102 o102 h102 => ?_) (fun k102 => ?_)
    rotate_left
    · skip
      refine thenQ.p (thenQ.p (blkQ.p (thenQ.p ?_)))
      exact ⟨_, selP [.k, .k] _, _, rfl, rfl, sel_perm [.k, .k] _, PlR.er (c := 84) (by rw [pe22, if_neg (by simp [kindsB] at k89; omega), if_pos (by simp at k102; omega)]) (by decide)⟩
    obtain ⟨rfl, rfl⟩ := h102
    refine JL.nil ?_
    refine thenQ.n ⟨[_], _, rfl, rfl, rfl, rfl, rfl, Reown.mrgN 2 rfl rfl, ⟨rfl, rfl⟩, trivial, ?_⟩
    refine JX.conv (S' := [12, 11, 10, 9, 8, 7, 6, 5, 4, 3, 2, 1, 0]) rfl (by (try simp only [lvM]); rfl) (by (try simp only [vlF, bxF, tkM, lvM, Flt.val, Flt.bx, nx, nl, stepsO, valO, nthO, curO, mrg, AV.cellsOf, splice_zero, splice_succ, Nat.reduceAdd]); rfl) ?_
    refine JX.fin (by kernel_rfl) (by kernel_rfl) fun bs_ => ?_
    refine QX.conv (by (try simp only [vlF, bxF, tkM, lvM, Flt.val, Flt.bx, nx, nl, stepsO, valO, nthO, curO, mrg, AV.cellsOf, splice_zero, splice_succ, Nat.reduceAdd]); rfl) ?_
    refine thenQ.n (J.seq (J.regionX mixed (Zf 0 [] rfl (fun _ => QW.move (.tmp rfl)) (Zf 1 [103] rfl (fun _ => QW.index_sl sl27 ty29 rfl (.tmp rfl) .const rfl rfl) (Zf 2 [104] rfl (fun _ => QW.field_ref fo29_2 (.tmp rfl) rfl) (Zf 3 [105] rfl (fun _ => QW.load_ref1 ty9 (.tmp rfl) (V.cs_2 _ _)) (Zf 4 [] rfl (fun _ => QW.move (.tmp rfl)) (Zf 5 [107] rfl (fun _ => QW.index_sl sl27 ty29 rfl (.tmp rfl) .const rfl rfl) (Zf 6 [108] rfl (fun _ => QW.field_ref fo29_2 (.tmp rfl) rfl) ?_)))))))))
    refine Zf 7 [109] rfl (fun _ => QW.load_ref1 ty9 (.tmp rfl) (V.cs_2 _ _)) (Zf 8 [106, 110] rfl (fun _ => QW.add_s (.tmp rfl) (.tmp rfl) (by omega)) (Zf 9 [111] rfl (fun _ => QW.build (idx := [0, 2]) pl29 z29 rfl (.cons .const (.cons (.tmp rfl) .nil)) rfl rfl rfl rfl) (JX.one 10 [true, true, true, true, true, true, true, true, true, true] rfl (by kernel_rfl) (by kernel_rfl) rfl rfl (by kernel_rfl) rfl fun bs10_ pe_ ex_ => ?_)))
    refine JL.conv (by (try simp only [vlF, bxF, tkM, lvM, Flt.val, Flt.bx, nx, nl, stepsO, valO, nthO, curO, mrg, AV.cellsOf, splice_zero, splice_succ, Nat.reduceAdd]); rfl) ?_
    refine JL.store_boxF 0 ty29 (.tmp rfl) rfl (.tmp rfl) rfl rfl rfl rfl (JL.nil ?_)
    refine thenQ.n ⟨[], _, rfl, rfl, rfl, rfl, rfl, Reown.tkN 2 rfl, trivial, trivial, ?_⟩
    refine JX.conv (S' := [10, 9, 8, 7, 6, 5, 4, 3, 2, 1, 0]) rfl (by (try simp only [lvM]); rfl) (by (try simp only [vlF, bxF, tkM, lvM, Flt.val, Flt.bx, nx, nl, stepsO, valO, nthO, curO, mrg, AV.cellsOf, splice_zero, splice_succ, Nat.reduceAdd]); rfl) ?_
    refine JX.fin (by kernel_rfl) (by kernel_rfl) fun bs_ => ?_
    refine QX.conv (by (try simp only [vlF, bxF, tkM, lvM, Flt.val, Flt.bx, nx, nl, stepsO, valO, nthO, curO, mrg, AV.cellsOf, splice_zero, splice_succ, Nat.reduceAdd]); rfl) ?_
    exact thenQ.n (J.ret (blkQ.r (thenQ.r (Zr [.k, .k] (RetEv.one rfl (REv.cell 0 ty29 rfl rfl rfl rfl (.aggL (.cons lr (.cons lr (.cons lr (.cons (.nil false false _) (.cons (.nil false false _) .nil)))))))) rfl (PlR.ok (v := .tx (a.text ++ b.text)) (by rw [pe22, if_neg (by simp [kindsB] at k89; omega), if_neg (by simp at k102; omega)]))))))
  have n22 : ¬ o = 22 := by simpa using c9
  refine Zs (Zq rfl (QW.eql (.tmp rfl) .const) (Zq rfl (QW.assign (.tmp rfl)) (Zn ?_)))
  refine J.cond (.tmp rfl) (fun c10 => ?_) (fun c10 => ?_)
  · skip
    obtain rfl : o = 26 := by simpa using c10
    obtain ⟨a, rfl⟩ := one_of (l := l) (by omega)
    have ha := hl a (by simp)
    refine Zs (Zq rfl (QW.move (.tmp rfl)) (Zq rfl (QW.buildSlice (idx := [0]) (xs := intsAV [2]) sl130 el3 z3 rfl (.cons .const .nil) rfl rfl rfl rfl rfl rfl rfl rfl rfl) ?_))
    refine JL.callPF [] gofn71 rfl Lent.nil (fun _ => (.cons (.tmp rfl) (.cons (.tmp rfl) .nil))) (kinds_ok _ [2] (by simp) (by simp)) (.inl rfl) (fun k117 x117 o117 h117 => ?_) (fun k117 => ?_)
    rotate_left
    · skip
      refine thenQ.p (blkQ.p (thenQ.p ?_))
      exact ⟨_, selP [.k, .k] _, _, rfl, rfl, sel_perm [.k, .k] _, PlR.er (c := 81) ((pe26 t a).trans (if_pos (by simpa [kindsB] using k117))) (by decide)⟩
    obtain ⟨rfl, rfl⟩ := h117
    refine Zn (Zs (Zq rfl (QW.move (.tmp rfl)) (Zq rfl (QW.index_sl sl27 ty29 rfl (.tmp rfl) .const rfl rfl) (Zq rfl (QW.field_ref fo29_1 (.tmp rfl) rfl) (Zq rfl (QW.load_ref1 ty22 (.tmp rfl) (V.cs_1 _ _)) (Zq rfl (QW.call gofn76 (.cons (.tmp rfl) .nil) (digits_ok _ ha.bits)) (Zq rfl (QW.move (.tmp rfl)) (Zq rfl (QW.extract (.tmp rfl) rfl) (Zq rfl (QW.extract (.tmp rfl) rfl) ?_)))))))))
    refine Zq rfl (QW.assign (.tmp rfl)) (Zq rfl (QW.assign (.tmp rfl)) (Zn (Zs (Zq rfl (QW.move (.tmp rfl)) (Zq rfl (QW.eql (.tmp rfl) .const) (Zq rfl (QW.move (.tmp rfl)) ?_))))))
    refine JL.callPF [] gofn45 rfl Lent.nil (fun _ => (.cons (.tmp rfl) (.cons (.tmp rfl) .nil))) (nd_ok _ _) (.inl rfl) (fun k129 x129 o129 h129 => ?_) (fun k129 => ?_)
    rotate_left
    · skip
      refine thenQ.p (blkQ.p (thenQ.p ?_))
      have h7 : ¬ intE a.bits = 0 := fun h => k129 (by simp [h])
      exact ⟨_, selP [.k, .k] _, _, rfl, rfl, sel_perm [.k, .k] _, PlR.er (c := if intE a.bits = 0 then 0 else 7) (by rw [pe26, if_neg (by simpa [kindsB] using k117), if_pos h7, if_neg h7]) (by rw [if_neg h7]; decide)⟩
    obtain ⟨rfl, rfl⟩ := h129
    refine Zn (Zs (Zq rfl (QW.move (.tmp rfl)) (Zq rfl (QW.build (idx := [0, 2]) pl29 z29 rfl (.cons .const (.cons (.tmp rfl) .nil)) rfl rfl rfl rfl) (JL.store_boxF 0 ty29 (.tmp rfl) rfl (.tmp rfl) rfl rfl rfl rfl (Zn (J.ret (blkQ.r (thenQ.r ?_))))))))
    have h7 : intE a.bits = 0 := Decidable.byContradiction fun h => by simp [h] at k129
    exact Zr [.k, .k] (RetEv.one rfl (REv.cell 0 ty29 rfl rfl rfl rfl (.aggL (.cons lr (.cons lr (.cons lr (.cons (.nil false false _) (.cons (.nil false false _) .nil)))))))) rfl (PlR.ok (v := .tx (if intE a.bits = 0 then intD (intV a.bits) else [])) (by rw [pe26, if_neg (by simpa [kindsB] using k117), if_neg (by simp [h7]), if_pos h7]))
  have n26 : ¬ o = 26 := by simpa using c10
  refine J.skip (blkQ.n (thenQ.n (Zs (Zq rfl (QW.load_box 1 ty34 (.tmp rfl) rfl rfl rfl) (Zq rfl (QW.move (.tmp rfl)) ?_)))))
  refine JL.callPF [] gofn77 rfl Lent.nil (fun _ => (.cons (.tmp rfl) (.cons (.tmp rfl) .nil))) (lists_ok Xc.mk ht hl ⟨hn8, by omega⟩) (.inl rfl) (fun k134 x134 o134 h134 => ?_) (fun k134 => ?_)
  rotate_left
  · skip
    refine thenQ.p ?_
    exact ⟨_, selP [.k, .k] _, _, rfl, rfl, sel_perm [.k, .k] _, PanR.pan k134⟩
  obtain ⟨v134, hv134, rfl, rfl⟩ := h134
  exact JL.store_boxF 0 ty29 (.tmp rfl) rfl (.tmp rfl) rfl vl rfl rfl (Zn (J.ret (Zr [.k, .k] (RetEv.one rfl (REv.cell 0 ty29 rfl rfl (take_at vl rfl) vl lr)) rfl (PlR.ok hv134))))
end Go.Proofs.YtjhonjdhanlbkaaGreat.J

/- Two loud operations that no order binds. -/
namespace Go.Proofs.YtjhonjdhanlbkaaGreat.J
open Go Go.RowKit
def blk2B (l : List Oper) (S Φ : List Nat) (i1 i2 : Nat) : Bool := (List.range l.length).all fun j => memB j S || memB j Φ || (Nat.beq j i1 || Nat.beq j i2) || (match l[j]? with
  | some o => o.after.toList.any fun e => Region.binds .any e && !memB e.on S && !memB e.on Φ
  | none => true)
section
variable {P : Program} {E : Ent} {Q : Exit → St → Prop} {n : Nat} {env : List (Nat × AV)} {own : List Own} {F : List (Value × AV)} {D : List Deferred} {ops : Array Oper}
theorem Ev.constA {st : St} {vs : List Value} (h : vs.all (·.oneCell') = true) : Ev E st (.const (.agg vs.toArray)) (.agg (vs.map .c)) := fun A a w _ =>
  .agg _ _ (fun k => vs.getD k undef) (by simp) (fun k y hk => by
    rw [List.getElem?_map] at hk
    obtain ⟨z, hz, rfl⟩ := Option.map_eq_some_iff.1 hk
    have := (List.all_eq_true.1 h) z (List.mem_of_getElem? hz)
    exact ⟨by simp [hz, List.getD], by simpa [hz, List.getD] using this⟩) (fun k y hk => by
    rw [List.getElem?_map] at hk
    obtain ⟨z, hz, rfl⟩ := Option.map_eq_some_iff.1 hk
    rw [show vs.getD k undef = z by simp [hz, List.getD]]; exact .c z)
def CandX (P : Program) (E : Ent) (Q : Exit → St → Prop) (n : Nat) (env : List (Nat × AV)) (own : List Own) (F : List (Value × AV)) (D : List Deferred) (ops : Array Oper) (S : List Nat) (Φ : List Flt) (i : Nat) : Prop :=
  ∃ (ms : List Bool) (o : Oper), ops[i]? = some o ∧ memB i S = false ∧ memB i (Φ.map (·.i)) = false ∧ lndB ops.toList o [] ((tkM ms Φ).map (·.i)) = true ∧ (lvM ms Φ).all (·.fre) = true ∧
    ∀ bs pe ex, JL P E ops [o] ⟨n, vlF bs (tkM ms Φ) ++ (env ++ pe), own ++ (bxF bs (tkM ms Φ) ++ ex), F, D⟩ (thenQ (fun s => ∃ ev env' own', s.n = n ∧ s.env = env' ++ pe ∧ s.facts = F ∧ s.dfs = D ∧ env' = ev ++ (vlF bs (tkM ms Φ) ++ env) ∧ ev.all (fun p => o.dst == some p.1) = true ∧ Reown s.own (own' ++ ex) ∧
      (match o.dst with | some d => (Φ.all fun φ => !Nat.beq φ.d d) = true ∧ lk env d = none | none => True) ∧ okO own' (lvM ms Φ) ∧ JX P E ops (i :: ((tkM ms Φ).map (·.i) ++ S)) (lvM ms Φ) ⟨n, env', own', F, D⟩ Q) Q)
theorem CandX.mk {S : List Nat} {Φ : List Flt} (i : Nat) (ms : List Bool) {o : Oper} (ho : ops[i]? = some o) (hS : memB i S = false) (hΦ : memB i (Φ.map (·.i)) = false)
    (hlnd : lndB ops.toList o [] ((tkM ms Φ).map (·.i)) = true) (hfre : (lvM ms Φ).all (·.fre) = true)
    (h : ∀ bs pe ex, JL P E ops [o] ⟨n, vlF bs (tkM ms Φ) ++ (env ++ pe), own ++ (bxF bs (tkM ms Φ) ++ ex), F, D⟩ (thenQ (fun s => ∃ ev own', s.n = n ∧ s.env = ev ++ (vlF bs (tkM ms Φ) ++ (env ++ pe)) ∧ s.facts = F ∧ s.dfs = D ∧ ev.all (fun p => o.dst == some p.1) = true ∧ Reown s.own (own' ++ ex) ∧
      (match o.dst with | some d => (Φ.all fun φ => !Nat.beq φ.d d) = true ∧ lk env d = none | none => True) ∧ okO own' (lvM ms Φ) ∧ JX P E ops (i :: ((tkM ms Φ).map (·.i) ++ S)) (lvM ms Φ) ⟨n, ev ++ (vlF bs (tkM ms Φ) ++ env), own', F, D⟩ Q) Q)) : CandX P E Q n env own F D ops S Φ i :=
  ⟨ms, o, ho, hS, hΦ, hlnd, hfre, fun bs pe ex a w hs => by
    have := h bs pe ex a w hs
    refine wpListIn_monoN this fun a' w' ⟨s, ⟨ev, own', h1, h2, h3, h4, h5, h6, h7, h8, h9⟩, hs'⟩ => ⟨s, ⟨ev, _, own', h1, by rw [h2]; simp, h3, h4, rfl, h5, h6, h7, h8, h9⟩, hs'⟩⟩
theorem jxPair {S : List Nat} {Φ : List Flt} (i1 i2 : Nat) (hbk : backB 0 ops.toList = true) (hblk : blk2B ops.toList S (Φ.map (·.i)) i1 i2 = true) (h1 : CandX P E Q n env own F D ops S Φ i1) (h2 : CandX P E Q n env own F D ops S Φ i2) :
    JX P E ops S Φ ⟨n, env, own, F, D⟩ Q := fun hw hF => by
  have hall : ∀ i, i = i1 ∨ i = i2 → CandX P E Q n env own F D ops S Φ i := fun i h => h.elim (fun e => e ▸ h1) (fun e => e ▸ h2)
  obtain ⟨ms0, o0, ho0, hS0, hΦ0, -, -, -⟩ := h1
  have hlt0 : i1 < ops.size := (Array.getElem?_eq_some_iff.1 ho0).1
  intro fuel
  induction fuel with
  | zero =>
    intro L bs A a w hc hcf
    exfalso
    have hi : L.getD i1 true = false := by
      rw [getD_same (by rw [hcf.size]; exact hlt0)]
      exact hcf.no i1 (fun h => by rw [memB_iff.2 h] at hS0; cases hS0) fun φ hφ he => by rw [memB_iff.2 (List.mem_map.2 ⟨φ, hφ, he⟩)] at hΦ0; cases hΦ0
    have := List.countP_eq_zero.1 (Nat.le_zero.1 hc) i1 (by simpa using hlt0)
    simp [hi] at this
  | succ fuel ih =>
    intro L bs A a w hc hcf
    have hundone : L.getD i1 false = false := hcf.no i1 (fun h => by rw [memB_iff.2 h] at hS0; cases hS0) fun φ hφ he => by rw [memB_iff.2 (List.mem_map.2 ⟨φ, hφ, he⟩)] at hΦ0; cases hΦ0
    refine ⟨fun hr => ?_, fun j hj => ?_⟩
    · exfalso
      have key : ∀ j, j < ops.size → L.getD j false = true := by
        intro j
        induction j using Nat.strongRecOn with
        | _ j ihj =>
          intro hjl
          cases hL : L.getD j false with
          | true => rfl
          | false =>
            exfalso
            obtain ⟨oj, hoj⟩ : ∃ oj, ops[j]? = some oj := ⟨_, Array.getElem?_eq_getElem hjl⟩
            have : j ∈ Region.ready .any ops L := ready_mem hcf.size hoj (by rw [getD_same (by rw [hcf.size]; exact hjl)]; exact hL) fun e he hb => by
              have hon := backB_lt hbk (i := j) (o := oj) (by simpa using hoj) e he hb
              exact ihj e.on (by omega) (by omega)
            rw [hr] at this
            cases this
      rw [key i1 hlt0] at hundone; cases hundone
    · obtain ⟨hjl, oj, hoj, hunj, hdeps⟩ := mem_ready hj
      have hunj' : L.getD j false = false := by rw [← getD_same (by rw [hcf.size]; exact hjl)]; exact hunj
      by_cases hjΦ : ∃ φ ∈ Φ, φ.i = j
      · obtain ⟨φ, hφ, rfl⟩ := hjΦ
        exact hcf.run hw hF hφ hunj' hjl (fun o' ho' => by rw [hoj] at ho'; cases ho'; exact hdeps) fun bs' A' a' w' hcf' => ih _ bs' A' a' w' (cnt_run hcf.size hjl hunj hc) hcf'
      · have hji : j = i1 ∨ j = i2 := by
          by_cases he : j = i1 ∨ j = i2
          · exact he
          · exfalso
            have h1 := List.all_eq_true.1 hblk j (by simpa using hjl)
            have h2 : memB j S = false := by
              cases hb : memB j S with
              | false => rfl
              | true => rw [hcf.yes j (memB_iff.1 hb)] at hunj'; cases hunj'
            have h3 : memB j (Φ.map (·.i)) = false := by
              cases hb : memB j (Φ.map (·.i)) with
              | false => rfl
              | true =>
                obtain ⟨φ, hφ, hφi⟩ := List.mem_map.1 (memB_iff.1 hb)
                exact absurd ⟨φ, hφ, hφi⟩ hjΦ
            have h4 : (Nat.beq j i1 || Nat.beq j i2) = false := by
              cases hb : (Nat.beq j i1 || Nat.beq j i2) with
              | false => rfl
              | true => exact absurd ((Bool.or_eq_true _ _ ▸ hb).imp Nat.eq_of_beq_eq_true Nat.eq_of_beq_eq_true) he
            have h5 : ops.toList[j]? = some oj := by simpa using hoj
            rw [h2, h3, h4, h5] at h1
            simp only [Bool.false_or] at h1
            obtain ⟨e, he, hb⟩ := List.any_eq_true.1 h1
            simp only [Bool.and_eq_true, Bool.not_eq_true'] at hb
            have h6 := hdeps e (by simpa using he) hb.1.1
            rw [hcf.no e.on (fun h => by rw [memB_iff.2 h] at hb; simp at hb) fun φ hφ hφi => by
              have := hb.2
              rw [memB_iff.2 (List.mem_map.2 ⟨φ, hφ, hφi⟩)] at this; cases this] at h6
            cases h6
        obtain ⟨ms, o, ho, hS, hΦ, hlnd, hfre, h⟩ := hall j hji
        have hp := tl_perm ms Φ
        have hlt := hjl
        have hoo : o = oj := by rw [ho] at hoj; cases hoj; rfl
        rw [← hoo] at hdeps
        clear hoj
        -- what it waits for has been done
        have hland : ∀ φ ∈ tkM ms Φ, L.getD φ.i false = true := fun φ hφ => lndB_done hcf.clo hdeps _ _ (fun o' h => by cases h) hlnd φ.i (List.mem_map.2 ⟨φ, hφ, rfl⟩)
        have hmem : ∀ φ, φ ∈ Φ ↔ φ ∈ tkM ms Φ ∨ φ ∈ lvM ms Φ := fun φ => by rw [hp.mem_iff, List.mem_append]
        obtain ⟨pe, hpe⟩ : ∃ pe, pe = vlF bs ((lvM ms Φ).filter fun φ => L.getD φ.i false) := ⟨_, rfl⟩
        have hndd : ((tkM ms Φ ++ lvM ms Φ).map (·.d)).Nodup := (hp.map _).nodup_iff.1 hw.ndd
        rw [List.map_append, List.nodup_append] at hndd
        have hnd : ((tkM ms Φ ++ lvM ms Φ).map (·.i)).Nodup := (hp.map _).nodup_iff.1 hw.nd
        rw [List.map_append, List.nodup_append] at hnd
        have hsat0 : SatA E A ⟨n, vlF bs (tkM ms Φ) ++ (env ++ pe), own ++ (bxF bs (tkM ms Φ) ++ exF L bs (lvM ms Φ)), F, D⟩ a w := by
          have h1 := hcf.sat.perm (List.Perm.append_left own ((exF_perm (L := L) (bs := bs) hp).trans (by rw [exF_append, exF_done hland])))
          refine ⟨h1.size, h1.defers, h1.keep, h1.hp, fun s x hl => ?_, h1.facts⟩
          rcases lk_vlF hl with ⟨φ, hφ, rfl, rfl⟩ | hl
          · exact hcf.val φ ((hmem φ).2 (.inl hφ)) (hland φ hφ)
          · rw [lk_append] at hl
            rcases hl with hl | ⟨_, hl⟩
            · exact hcf.sat.env s x hl
            · rw [hpe] at hl
              rcases lk_vlF (env := []) (by rw [List.append_nil]; exact hl) with ⟨φ, hφ, rfl, rfl⟩ | hl
              · rw [List.mem_filter] at hφ
                exact hcf.val φ ((hmem φ).2 (.inr hφ.1)) hφ.2
              · simp [lk] at hl
        have hl := h bs pe (exF L bs (lvM ms Φ)) a w ⟨A, hsat0⟩
        have hK : ∀ a' w', wpListIn (fen E.rd) 0 P ops (lift E (thenQ (fun s => ∃ ev env' own', s.n = n ∧ s.env = env' ++ pe ∧ s.facts = F ∧ s.dfs = D ∧ env' = ev ++ (vlF bs (tkM ms Φ) ++ env) ∧ ev.all (fun p => o.dst == some p.1) = true ∧ Reown s.own (own' ++ exF L bs (lvM ms Φ)) ∧
            (match o.dst with | some d => (Φ.all fun φ => !Nat.beq φ.d d) = true ∧ lk env d = none | none => True) ∧ okO own' (lvM ms Φ) ∧ JX P E ops (j :: ((tkM ms Φ).map (·.i) ++ S)) (lvM ms Φ) ⟨n, env', own', F, D⟩ Q) Q)) [] a' w' → wpAnyIn (fen E.rd) 0 P .any ops (lift E Q) fuel (L.setIfInBounds j true) a' w' := by
          rintro a' w' ⟨⟨n', env2, own2, F', D'⟩, ⟨ev, env', own', rfl, rfl, rfl, rfl, rfl, hev, hre, hdd, hoO, hX⟩, A', hsA⟩
          have hevd : ∀ s x, lk ev s = some x → o.dst = some s := fun s x hl' => by
            have := List.all_eq_true.1 hev _ (lk_mem _ _ _ hl')
            simpa using this
          have hlts : j < L.size := by rw [hcf.size]; exact hlt
          have hset : ∀ z, (L.setIfInBounds j true).getD z false = if z = j then true else L.getD z false := fun z => getD_set _ _ _ hlts _
          have hnot : ∀ φ ∈ Φ, φ.i ≠ j := fun φ hφ he => by rw [memB_iff.2 (List.mem_map.2 ⟨φ, hφ, he⟩)] at hΦ; cases hΦ
          have hevΦ : ∀ φ ∈ Φ, lk ev φ.d = none := fun φ hφ => by
            cases hle : lk ev φ.d with
            | none => rfl
            | some x =>
              have hd' := hevd _ _ hle
              rw [hd'] at hdd
              have := List.all_eq_true.1 hdd.1 φ hφ
              simp at this
          have hold : ∀ s y, lk env s = some y → lk (ev ++ (vlF bs (tkM ms Φ) ++ env)) s = some y := fun s y hl' => by
            rw [lk_append]
            have h1 : lk ev s = none := by
              cases hle : lk ev s with
              | none => rfl
              | some x =>
                have hd' := hevd _ _ hle
                rw [hd'] at hdd
                simp only at hdd
                rw [hdd.2] at hl'; cases hl'
            refine .inr ⟨h1, ?_⟩
            rw [lk_vlF_none fun φ hφ he => ?_]
            · exact hl'
            · rw [← he, hw.ne φ ((hmem φ).2 (.inl hφ))] at hl'; cases hl'
          have hexs : exF (L.setIfInBounds j true) bs (lvM ms Φ) = exF L bs (lvM ms Φ) := exF_congr fun φ hφ => ⟨by rw [hset, if_neg (hnot φ ((hmem φ).2 (.inr hφ)))], rfl⟩
          refine hX ⟨hnd.2.1, hndd.2.1, fun φ hφ hm => ?_, fun φ hφ => ?_⟩ (fun φ hφ => ?_) fuel _ bs A' a' w' (cnt_run hcf.size hlt hunj hc) ⟨by simpa using hcf.size, fun z hz => ?_, fun z hz1 hz2 => ?_, fun z oz hoz hLz e he hb => ?_, ?_, fun φ hφ hLφ => ?_⟩
          · rcases List.mem_cons.1 hm with hm | hm
            · exact hnot φ ((hmem φ).2 (.inr hφ)) hm
            · rcases List.mem_append.1 hm with hm | hm
              · exact hnd.2.2 _ hm _ (List.mem_map.2 ⟨φ, hφ, rfl⟩) rfl
              · exact hw.ns φ ((hmem φ).2 (.inr hφ)) hm
          · have hφΦ := (hmem φ).2 (.inr hφ)
            show lk (ev ++ (vlF bs (tkM ms Φ) ++ env)) φ.d = none
            cases hle : lk (ev ++ (vlF bs (tkM ms Φ) ++ env)) φ.d with
            | none => rfl
            | some y =>
              rw [lk_append] at hle
              rcases hle with hle | ⟨_, hle⟩
              · rw [hevΦ φ hφΦ] at hle; cases hle
              · rw [lk_vlF_none fun ψ hψ he => hndd.2.2 _ (List.mem_map.2 ⟨ψ, hψ, rfl⟩) _ (List.mem_map.2 ⟨φ, hφ, rfl⟩) he] at hle
                rw [hw.ne φ hφΦ] at hle; cases hle
          · obtain ⟨o', ho', hd', hdn', hm'⟩ := hF φ ((hmem φ).2 (.inr hφ))
            refine ⟨o', ho', hd', hdn', ?_⟩
            split at hm'
            · exact hm'
            · obtain ⟨e, he, _, hs⟩ := hm'
              refine ⟨e, fun s y hl' => ?_, okO_get hoO φ hφ, fun own2 _ hO2 => hs own2 (fun hf => ?_) hO2⟩
              · rcases he s y hl' with h1 | ⟨ψ, hψ, rfl, hψv, hψd⟩
                · exact .inl (hold s y h1)
                · rcases (hmem ψ).1 hψ with hψ' | hψ'
                  · left
                    rw [lk_append]
                    refine .inr ⟨hevΦ ψ hψ, ?_⟩
                    rw [lk_vlF_mem hndd.1 hψ']
                    unfold Flt.val
                    rw [hψv]
                  · exact .inr ⟨ψ, hψ', rfl, hψv, hψd⟩
              · have := List.all_eq_true.1 hfre φ hφ
                rw [hf] at this; cases this
          · rw [hset]
            split
            · rfl
            · rename_i hne
              rcases List.mem_cons.1 hz with hz | hz
              · exact absurd hz hne
              · rcases List.mem_append.1 hz with hz | hz
                · obtain ⟨φ, hφ, rfl⟩ := List.mem_map.1 hz
                  exact hland φ hφ
                · exact hcf.yes z hz
          · rw [hset, if_neg (fun h => hz1 (by simp [h]))]
            refine hcf.no z (fun h => hz1 (by simp [h])) fun φ hφ he => ?_
            rcases (hmem φ).1 hφ with h' | h'
            · exact hz1 (by rw [← he]; exact List.mem_cons_of_mem _ (List.mem_append_left _ (List.mem_map.2 ⟨φ, h', rfl⟩)))
            · exact hz2 φ h' he
          · rw [hset] at hLz ⊢
            split
            · rfl
            · by_cases hzj : z = j
              · subst hzj; rw [ho] at hoz; cases hoz; exact hdeps e he hb
              · rw [if_neg hzj] at hLz; exact hcf.clo z oz hoz hLz e he hb
          · rw [hexs]
            exact ⟨hsA.size, hsA.defers, hsA.keep, hsA.hp.reown hre, fun s y hl' => hsA.env s y (by rw [lk_append]; exact .inl hl'), hsA.facts⟩
          · rw [hset, if_neg (hnot φ ((hmem φ).2 (.inr hφ)))] at hLφ
            refine hsA.env φ.d (φ.val bs) ?_
            have hφΦ := (hmem φ).2 (.inr hφ)
            rw [lk_append]
            refine .inr ⟨?_, ?_⟩
            · show lk (ev ++ (vlF bs (tkM ms Φ) ++ env)) φ.d = none
              cases hle : lk (ev ++ (vlF bs (tkM ms Φ) ++ env)) φ.d with
              | none => rfl
              | some y =>
                rw [lk_append] at hle
                rcases hle with hle | ⟨_, hle⟩
                · rw [hevΦ φ hφΦ] at hle; cases hle
                · rw [lk_vlF_none fun ψ hψ he => hndd.2.2 _ (List.mem_map.2 ⟨ψ, hψ, rfl⟩) _ (List.mem_map.2 ⟨φ, hφ, rfl⟩) he] at hle
                  rw [hw.ne φ hφΦ] at hle; cases hle
            · rw [hpe]
              have := lk_vlF_mem (bs := bs) (env := []) (Φ := (lvM ms Φ).filter fun φ => L.getD φ.i false) (φ := φ) ((List.filter_sublist.map _).nodup hndd.2.1) (List.mem_filter.2 ⟨hφ, hLφ⟩)
              rwa [List.append_nil] at this
        unfold wpOpIn
        simp only [ho]
        unfold wpListIn at hl
        split
        · rename_i hw'
          rw [if_pos hw'] at hl
          exact Oper.wpIn_monoQ (fun ch a w h => lift_q (by intro h; cases h) h) (fun h => by first | exact fun a w => lift_q (by intro h; cases h) (h a w) | exact h) (Oper.wpIn_mono hK hl)
        · rename_i hw'
          rw [if_neg hw'] at hl
          exact ⟨hl.1, hK _ _ hl.2⟩
end
end Go.Proofs.YtjhonjdhanlbkaaGreat.J

/- Walks: the machine: what an expression tells, items of a list. -/
namespace Go.Proofs.YtjhonjdhanlbkaaGreat.J
open Go Go.RowKit
set_option maxRecDepth 10000
set_option maxHeartbeats 4000000
def mb (b : Nat) (s : ScT) (f : Int) : Own := .box b (s.st.cs false ++ s.ev.cs false ++ s.it.cs false ++ [.c (.int .i64 f)])
theorem mb_at {s : ScT} {f : Int} (k : Nat) (h : k ≤ 2 := by decide) : ((s.st.cs false ++ s.ev.cs false ++ s.it.cs false ++ [AV.c (.int .i64 f)]).drop (5 * k)).take 5 = (match k with | 0 => s.st | 1 => s.ev | _ => s.it).cs false := by
  obtain ⟨⟨k1, b1, t1, ks1, is1⟩, ⟨k2, b2, t2, ks2, is2⟩, ⟨k3, b3, t3, ks3, is3⟩⟩ := s
  match k, h with
  | 0, _ => rfl
  | 1, _ => rfl
  | 2, _ => rfl
theorem mb_fuel {s : ScT} {f : Int} : (s.st.cs false ++ s.ev.cs false ++ s.it.cs false ++ [AV.c (.int .i64 f)])[15]? = some (.c (.int .i64 f)) := by
  obtain ⟨⟨k1, b1, t1, ks1, is1⟩, ⟨k2, b2, t2, ks2, is2⟩, ⟨k3, b3, t3, ks3, is3⟩⟩ := s; rfl
theorem mb_len {s : ScT} {f : Int} : (s.st.cs false ++ s.ev.cs false ++ s.it.cs false ++ [AV.c (.int .i64 f)]).length = 16 := by
  simp [V.cs_length]
theorem mb_setf {s : ScT} {f g : Int} : splice (s.st.cs false ++ s.ev.cs false ++ s.it.cs false ++ [AV.c (.int .i64 f)]) 15 [.c (.int .i64 g)] = s.st.cs false ++ s.ev.cs false ++ s.it.cs false ++ [AV.c (.int .i64 g)] := by
  obtain ⟨⟨k1, b1, t1, ks1, is1⟩, ⟨k2, b2, t2, ks2, is2⟩, ⟨k3, b3, t3, ks3, is3⟩⟩ := s; rfl
theorem mb_setit {s : ScT} {f : Int} {x : V} : splice (s.st.cs false ++ s.ev.cs false ++ s.it.cs false ++ [AV.c (.int .i64 f)]) 10 (x.cs false) = s.st.cs false ++ s.ev.cs false ++ x.cs false ++ [AV.c (.int .i64 f)] := by
  obtain ⟨⟨k1, b1, t1, ks1, is1⟩, ⟨k2, b2, t2, ks2, is2⟩, ⟨k3, b3, t3, ks3, is3⟩⟩ := s
  obtain ⟨k4, b4, t4, ks4, is4⟩ := x; rfl
def pb (b : Nat) : AV := .c (.pointer (some ⟨b, 0, none⟩))
def okF (f : Int) : Prop := 0 ≤ f ∧ f ≤ 4611686018427387904
def EvR (r : ER V) (b : Nat) (s : ScT) : Res → List Own → Prop := PanR (errE r = 0) (errV (errE r)) fun x o => ∃ v f', r = .ok (v, f') ∧ x = .agg (v.cs false) ∧ o = [mb b s f']
def TrR (r : ER Bool) (b : Nat) (s : ScT) : Res → List Own → Prop := PanR (errE r = 0) (errV (errE r)) fun x o => ∃ t f', r = .ok (t, f') ∧ x = .c (.bool t) ∧ o = [mb b s f']
theorem EvR.ok {r : ER V} {b : Nat} {s : ScT} {v : V} {f' : Int} (h : r = .ok (v, f')) : EvR r b s (.ret (.agg (v.cs false))) [mb b s f'] := .inl ⟨by rw [h]; rfl, _, rfl, v, f', h, rfl, rfl⟩
theorem EvR.er {r : ER V} {b : Nat} {s : ScT} {c : Int} (h : r = .error c) (hc : ¬ c = 0) : EvR r b s (.pan (.iface 38 (.int .i64 c))) [] := .inr ⟨by rw [h]; exact hc, by rw [h]; rfl, rfl⟩
theorem TrR.ok {r : ER Bool} {b : Nat} {s : ScT} {t : Bool} {f' : Int} (h : r = .ok (t, f')) : TrR r b s (.ret (.c (.bool t))) [mb b s f'] := .inl ⟨by rw [h]; rfl, _, rfl, t, f', h, rfl, rfl⟩
theorem TrR.er {r : ER Bool} {b : Nat} {s : ScT} {c : Int} (h : r = .error c) (hc : ¬ c = 0) : TrR r b s (.pan (.iface 38 (.int .i64 c))) [] := .inr ⟨by rw [h]; exact hc, by rw [h]; rfl, rfl⟩
theorem er_of {α : Type} {r : Except Int α} (h : ¬ errE r = 0) : r = .error (errE r) := by
  cases r with
  | ok _ => exact absurd rfl h
  | error c => rfl
def EvIH (n : Nat) : Prop := ∀ (e : EX) (s : ScT) (f : Int) (b : Nat) (fr : Bool), e.wf → e.Fine → s.good → okF f → e.sz ≤ n → AC Tryz.prog 33 [mb b s f] [pb b, .agg (e.cs fr)] (EvR (e.ev s f) b s)
theorem truE_er {r : ER V} {c : Int} (h : r = .error c) : truE r = .error c := by rw [h]; rfl
theorem truE_no {r : ER V} {v : V} {f : Int} (h : r = .ok (v, f)) (hk : ¬ v.kind = 1) : truE r = .error 81 := by rw [h]; exact if_neg hk
theorem truE_yes {r : ER V} {v : V} {f : Int} (h : r = .ok (v, f)) (hk : v.kind = 1) : truE r = .ok (v.bits == 1, f) := by rw [h]; exact if_pos hk
def itE {β : Type} (stp : β → V → Int → Except Int (Bool × β × Int)) : List V → β → Int → Except Int (β × Int)
  | [], σ, f => .ok (σ, f)
  | x :: r, σ, f => match stp σ x f with
    | .error e => .error e
    | .ok (k, σ', f') => if k then itE stp r σ' f' else .ok (σ', f')
def itemsE {β : Type} (stp : β → V → Int → Except Int (Bool × β × Int)) (σ : β) (r : ER V) : Except Int (β × Int) := match r with
  | .error e => .error e
  | .ok (v, f) => if v.kind ≠ 4 then .error 81 else itE stp v.items σ f
theorem itE_drop {β : Type} {stp : β → V → Int → Except Int (Bool × β × Int)} {l : List V} {j : Nat} (h : j < l.length) (σ : β) (f : Int) : itE stp (l.drop j) σ f = match stp σ l[j] f with
    | .error e => .error e
    | .ok (k, σ', f') => if k then itE stp (l.drop (j + 1)) σ' f' else .ok (σ', f') := by
  rw [List.drop_eq_getElem_cons h, itE]
theorem itE_bad {β : Type} {stp : β → V → Int → Except Int (Bool × β × Int)} {l : List V} {j : Nat} {σ : β} {f c : Int} (h : j < l.length) (hc : stp σ l[j] f = .error c) : itE stp (l.drop j) σ f = .error c := by rw [itE_drop h, hc]
theorem itE_ok {β : Type} {stp : β → V → Int → Except Int (Bool × β × Int)} {l : List V} {j : Nat} {σ σ' : β} {f f' : Int} {k : Bool} (h : j < l.length) (hc : stp σ l[j] f = .ok (k, σ', f')) : itE stp (l.drop j) σ f = if k then itE stp (l.drop (j + 1)) σ' f' else .ok (σ', f') := by rw [itE_drop h, hc]
theorem mtruth_ok {n : Nat} (ih : EvIH n) {e : EX} {s : ScT} {f : Int} {b : Nat} {fr : Bool} {ys : List AV} (he : Xc fr e ys) (hw : e.wf) (hf : e.Fine) (hs : s.good) (h0 : okF f) (hn : e.sz ≤ n) :
    AC Tryz.prog 48 [mb b s f] [pb b, .agg ys] (TrR (truE (e.ev s f)) b s) := by
  subst he
  refine AC.of_J Tryz.func48 rfl Tryz.ntmps48 rfl fun w0 A0 => ?_
  refine Zs (JL.box_agg (.tmp rfl) rfl fun b3 => Zq rfl (QW.assign .const) (Zn (Zs (Zq rfl (QW.move (.tmp rfl)) (Zq rfl (QW.load_box 0 ty34 (.tmp rfl) rfl (take_at xl rfl) xl) ?_)))))
  refine JL.callPF [.k, .p] gofn33 rfl Lent.nil (fun _ => (.cons (.tmp rfl) (.cons (.tmp rfl) .nil))) (ih e s f b fr hw hf hs h0 hn) (.inl rfl) (fun k8 x8 o8 h8 => ?_) (fun k8 => ?_)
  rotate_left
  · skip
    refine thenQ.p ?_
    exact ⟨_, selP [.k] _, _, rfl, rfl, sel_perm [.k] _, TrR.er (truE_er (er_of k8)) k8⟩
  obtain ⟨v8, f8, hv8, rfl, rfl⟩ := h8
  refine JL.alloc z29 rfl rfl fun b5 => JL.store_boxF 0 ty29 (.tmp rfl) rfl (.tmp rfl) rfl vl rfl rfl (Zn (Zs ?_))
  obtain ⟨vk, vb, vt, vks, vis⟩ := v8
  refine Zq rfl (QW.field_ptr fo29_0 (.tmp rfl) rfl) (Zq rfl (QW.load_box1 0 ty3 (.tmp rfl) rfl rfl) (Zq rfl (QW.eql (.tmp rfl) .const) ?_))
  refine JL.callPF [] gofn45 rfl Lent.nil (fun _ => (.cons (.tmp rfl) (.cons .const .nil))) (nd_ok _ _) (.inl rfl) (fun k12 x12 o12 h12 => ?_) (fun k12 => ?_)
  rotate_left
  · skip
    refine thenQ.p ?_
    exact ⟨_, selP [.k, .k, .k] _, _, rfl, rfl, sel_perm [.k, .k, .k] _, TrR.er (c := 81) (truE_no hv8 (by show ¬ vk = 1; simpa using k12)) (by decide)⟩
  obtain ⟨rfl, rfl⟩ := h12
  exact Zn (Zs (Zq rfl (QW.field_ptr fo29_1 (.tmp rfl) rfl) (Zq rfl (QW.load_box1 0 ty22 (.tmp rfl) rfl rfl) (Zq rfl (QW.eql (.tmp rfl) .const) (Zq rfl (QW.assign (.tmp rfl)) (Zn (J.ret (Zr [.k, .k, .p] (RetEv.one rfl (REv.tmp rfl lr)) rfl (TrR.ok ((truE_yes hv8 (by show vk = 1; simpa using k12)).trans (by rw [V.bits, show (((vb : Nat) : Int) == 1) = (vb == 1) by rw [Bool.eq_iff_iff]; simp; omega])))))))))))
def BodyC {β : Type} (n : Nat) (g : FuncId) (ca : List Value) (W : Nat → β → Own → Prop) (stp : β → V → Int → Except Int (Bool × β × Int)) (b : Nat) (s : ScT) : Prop :=
  ∀ (j : Nat) (σ : β) (x : V) (f : Int) (o0 : Own), j < 32 → W j σ o0 → x.good → okF f → AC Tryz.prog g [mb b { s with it := x } f, o0] (.agg (x.cs false) :: ca.map AV.c)
    (PanR (errE (stp σ x f) = 0) (errV (errE (stp σ x f))) fun y o => ∃ k σ' f' o1, stp σ x f = .ok (k, σ', f') ∧ okF f' ∧ W (j + 1) σ' o1 ∧ y = .c (.bool k) ∧ o = [mb b { s with it := x } f', o1])
def ItR {β : Type} (W : Nat → β → Own → Prop) (r : Except Int (β × Int)) (b : Nat) (s : ScT) : Res → List Own → Prop := PanR (errE r = 0) (errV (errE r)) fun x o => ∃ σ f' j o1, r = .ok (σ, f') ∧ j ≤ 32 ∧ W j σ o1 ∧ okF f' ∧ x = .tup [] ∧ o = [mb b s f', o1]
theorem ItR.er {β : Type} {W : Nat → β → Own → Prop} {r : Except Int (β × Int)} {b : Nat} {s : ScT} {c : Int} (h : r = .error c) (hc : ¬ c = 0) : ItR W r b s (.pan (.iface 38 (.int .i64 c))) [] := .inr ⟨by rw [h]; exact hc, by rw [h]; rfl, rfl⟩
theorem ItR.ok {β : Type} {W : Nat → β → Own → Prop} {r : Except Int (β × Int)} {b : Nat} {s : ScT} {σ : β} {f' : Int} {j : Nat} {o1 : Own} (h : r = .ok (σ, f')) (hj : j ≤ 32) (hI : W j σ o1) (hf : okF f') : ItR W r b s (.ret (.tup [])) [mb b s f', o1] := .inl ⟨by rw [h]; rfl, _, rfl, σ, f', j, o1, h, hj, hI, hf, rfl, rfl⟩
theorem itemsE_er {β : Type} {stp : β → V → Int → Except Int (Bool × β × Int)} {σ : β} {r : ER V} {c : Int} (h : r = .error c) : itemsE stp σ r = .error c := by rw [h]; rfl
theorem itemsE_no {β : Type} {stp : β → V → Int → Except Int (Bool × β × Int)} {σ : β} {r : ER V} {v : V} {f : Int} (h : r = .ok (v, f)) (hk : ¬ v.kind = 4) : itemsE stp σ r = .error 81 := by rw [h]; exact if_pos hk
theorem itemsE_yes {β : Type} {stp : β → V → Int → Except Int (Bool × β × Int)} {σ : β} {r : ER V} {v : V} {f : Int} (h : r = .ok (v, f)) (hk : v.kind = 4) : itemsE stp σ r = itE stp v.items σ f := by rw [h]; exact if_neg (fun h => h hk)
theorem ev_okF {e : EX} {s : ScT} {f f' : Int} {v : V} (hw : e.wf) (hf : e.Fine) (hs : s.good) (h0 : okF f) (h : e.ev s f = .ok (v, f')) : v.good ∧ okF f' := by
  obtain ⟨a1, a2, a3⟩ := EX.ev_good e s f hf hw hs v f' h
  exact ⟨a1, a3, by have := h0.2; omega⟩
theorem mitems_ok {β : Type} {n : Nat} {g : FuncId} {ca : List Value} {W : Nat → β → Own → Prop} {stp : β → V → Int → Except Int (Bool × β × Int)} (ih : EvIH n) (hgo : goFn Tryz.prog g = true) {e : EX} {s : ScT} {f : Int} {b : Nat} {fr : Bool} {ys : List AV} (hg : BodyC n g ca W stp b s) (he : Xc fr e ys) (hw : e.wf) (hf : e.Fine) (hs : s.good) (h0 : okF f) (hn : e.sz ≤ n) {σ0 : β} {o0 : Own} (hI : W 0 σ0 o0) :
    AC Tryz.prog 66 [mb b s f, o0] [pb b, .agg ys, .c (.func (.func g) #[] ca.toArray)] (ItR W (itemsE stp σ0 (e.ev s f)) b s) := by
  subst he
  refine AC.of_J Tryz.func66 rfl Tryz.ntmps66 rfl fun w0 A0 => ?_
  refine Zs (JL.box_agg (.tmp rfl) rfl fun b4 => Zn (Zs (Zq rfl (QW.move (.tmp rfl)) (Zq rfl (QW.load_box 0 ty34 (.tmp rfl) rfl (take_at xl rfl) xl) ?_))))
  refine JL.callPF [.k, .p] gofn33 rfl Lent.nil (fun _ => (.cons (.tmp rfl) (.cons (.tmp rfl) .nil))) (ih e s f b fr hw hf hs h0 hn) (.inl rfl) (fun k12 x12 o12 h12 => ?_) (fun k12 => ?_)
  rotate_left
  · skip
    refine thenQ.p ?_
    exact ⟨_, selP [.k, .k] _, _, rfl, rfl, sel_perm [.k, .k] _, ItR.er (itemsE_er (er_of k12)) k12⟩
  obtain ⟨v12, f12, hv12, rfl, rfl⟩ := h12
  obtain ⟨hgv, hfv⟩ := ev_okF hw hf hs h0 hv12
  obtain ⟨vk, vb, vt, vks, vis⟩ := v12
  have hlen : vis.length ≤ 32 := hgv.len
  refine JL.alloc z29 rfl rfl fun b6 => JL.store_boxF 0 ty29 (.tmp rfl) rfl (.tmp rfl) rfl rfl rfl rfl (Zn (Zs (Zq rfl (QW.field_ptr fo29_0 (.tmp rfl) rfl) (Zq rfl (QW.load_box1 0 ty3 (.tmp rfl) rfl rfl) (Zq rfl (QW.eql (.tmp rfl) .const) ?_)))))
  refine JL.callPF [] gofn45 rfl Lent.nil (fun _ => (.cons (.tmp rfl) (.cons .const .nil))) (nd_ok _ _) (.inl rfl) (fun k16 x16 o16 h16 => ?_) (fun k16 => ?_)
  rotate_left
  · skip
    refine thenQ.p ?_
    exact ⟨_, selP [.k, .k, .k, .k] _, _, rfl, rfl, sel_perm [.k, .k, .k, .k] _, ItR.er (c := 81) (itemsE_no hv12 (by show ¬ vk = 4; simpa using k16)) (by decide)⟩
  obtain ⟨rfl, rfl⟩ := h16
  refine Zn (Zs (Zq rfl (QW.move (.tmp rfl)) (Zq rfl (QW.nil_ptr (.tmp rfl)) (Zq rfl (QW.field_ptr fo69_0 (.tmp rfl) rfl) (Zq rfl (QW.field_ptr fo36_2 (.tmp rfl) rfl) (Zq rfl (QW.load_box 2 ty29 (.tmp rfl) rfl (mb_at 2) vl) (JL.alloc z29 rfl rfl fun b7 => JL.store_boxF 0 ty29 (.tmp rfl) rfl (.tmp rfl) rfl vl rfl rfl (Zn ?_))))))))
  refine J.seq (Zs (Zq rfl (QW.field_ptr fo29_4 (.tmp rfl) rfl) (Zq rfl (QW.load_box1 1 ty27 (.tmp rfl) rfl rfl) (Zq rfl (QW.len_slE sl27 (.tmp rfl) wl) (Zq rfl (QW.move .const) (Zn (J.block (J.loopK (ι := Nat × β × Int × V × Own) [0, 2, 7, 23, 24] (fun ⟨j, σ, g1, it, o⟩ => [(25, .c (.int .i64 (j : Int)))]) (fun ⟨j, σ, g1, it, o⟩ oo => List.set (List.set oo 3 (mb b { s with it := it } g1)) 4 (o)) (fun ⟨j, σ, g1, it, o⟩ => j ≤ vis.length ∧ itE stp vis σ0 f12 = itE stp (vis.drop j) σ g1 ∧ W j σ o ∧ okF g1) (fun ⟨j, σ, g1, it, o⟩ => vis.length - j) ⟨0, σ0, f12, s.it, o0⟩ (⟨Nat.zero_le _, rfl, hI, hfv⟩) (Wk.re (.cons rfl lr (.cons rfl lr (.cons rfl lr (.cons rfl lr (.cons rfl lr (.cons rfl lr .nil)))))) (Reown.refl _) (fun _ h => by first | exact h | simp [h])) ?_))))))))
  intro ⟨j, σ, f, it, o⟩ ⟨hj, hit, hIj, hfj⟩
  refine J.conv (by (try simp only [nl, stepsO, valO, nthO, curO, mrg, AV.cellsOf, splice_zero, splice_succ, Nat.reduceAdd]); rfl) ?_
  refine Zs (Zq rfl (QW.lss (.tmp rfl) (.tmp rfl)) (Zn (J.seq ?_)))
  refine J.cond (.tmp rfl) (fun c1 => ?_) (fun c1 => ?_)
  · skip
    have hlt : j < vis.length := by simpa [V.css_length] using c1
    have hj32 : j < 32 := by omega
    have hgx : vis[j].good := hgv.kid (List.getElem_mem hlt)
    refine Zk (J.seq (J.block (Zs (Zq rfl (QW.index_sl sl27 ty29 rfl (.tmp rfl) (.tmp rfl) rfl (by exact V.css_getE _ hlt)) ?_))))
    refine Zq rfl (QW.load_ref ty29 (.tmp rfl) (take_at0 vl rfl) vl) (JL.alloc z29 rfl rfl fun b9 => JL.store_boxF 0 ty29 (.tmp rfl) rfl (.tmp rfl) rfl vl rfl rfl (Zn (Zs (Zq rfl (QW.move (.tmp rfl)) (Zq rfl (QW.load_box 0 ty29 (.tmp rfl) rfl (take_at vl rfl) vl) (Zq rfl (QW.nil_ptr (.tmp rfl)) (Zq rfl (QW.field_ptr fo69_0 (.tmp rfl) rfl) (Zq rfl (QW.field_ptr fo36_2 (.tmp rfl) rfl) ?_))))))))
    refine JL.store_box 4 ty29 (.tmp rfl) rfl (.tmp rfl) rfl vl (by rw [mb_len]; rfl) mb_setit rfl ?_
    refine Zn (Zs (Zq rfl (QW.move (.tmp rfl)) (Zq rfl (QW.load_box 0 ty29 (.tmp rfl) rfl (take_at vl rfl) vl) ?_)))
    refine JL.callPV [.k, .k, .k, .k, .p, .p] hgo rfl (.tmp rfl) Lent.nil (fun _ => (.cons (.tmp rfl) .nil)) rfl (hg j σ vis[j] f o hj32 hIj hgx hfj) (.inl rfl) (fun k36 x36 o36 h36 => ?_) (fun k36 => ?_)
    rotate_left
    · skip
      refine thenQ.p (blkQ.p (thenQ.p (thenQ.p (blkQ.p (thenQ.p ?_)))))
      exact ⟨_, selP [.k, .k, .k, .k] _, _, rfl, rfl, sel_perm [.k, .k, .k, .k] _, ItR.er ((itemsE_yes hv12 (by show vk = 4; simpa using k16)).trans (hit.trans (itE_bad hlt (er_of k36)))) k36⟩
    obtain ⟨q36, σ36, f36, o1_, hs36, hf36, hI36, rfl, rfl⟩ := h36
    rw [itE_ok hlt hs36] at hit
    refine Zq rfl (QW.not (.tmp rfl)) (Zn ?_)
    refine J.cond (.tmp rfl) (fun c2 => ?_) (fun c2 => ?_)
    · skip
      obtain rfl : q36 = false := by simpa using c2
      rw [if_neg (by decide)] at hit
      refine J.exit (blkQ.miss rfl (thenQ.x (thenQ.x (blkQ.hit (thenQ.n (J.region_lit (Zq rfl (QW.move (.tmp rfl)) (Zq rfl (QW.load_box 1 ty29 (.tmp rfl) rfl (take_at vl rfl) vl) (Zq rfl (QW.nil_ptr (.tmp rfl)) ?_)))))))))
      refine Zq rfl (QW.field_ptr fo69_0 (.tmp rfl) rfl) (Zq rfl (QW.field_ptr fo36_2 (.tmp rfl) rfl) (JL.store_box 4 ty29 (.tmp rfl) rfl (.tmp rfl) rfl vl (by rw [mb_len]; rfl) mb_setit rfl ?_))
      exact JL.nil (Zr [.k, .k, .k, .k, .p, .p] (RetEv.none rfl ) rfl (ItR.ok ((itemsE_yes hv12 (by show vk = 4; simpa using k16)).trans hit) (Nat.le_trans hlt hlen) hI36 hf36))
    obtain rfl : q36 = true := by simpa using c2
    rw [if_pos rfl] at hit
    refine J.skip (blkQ.n (thenQ.n (J.region_lit (Zq rfl (QW.add (.tmp rfl) .const (w64 (by omega))) (Zq rfl (QW.move (.tmp rfl)) (Zn ?_))))))
    exact ⟨⟨j + 1, σ36, f36, vis[j], o1_⟩, ⟨hlt, hit, hI36, hf36⟩, by show vis.length - (j + 1) < vis.length - j; omega, Wk.re (.cons rfl lr (.cons rfl lr (.cons rfl lr (.cons rfl lr (.cons rfl lr (.cons rfl lr .nil)))))) (Reown.dropN 1 _ rfl) (fun _ h => by first | exact h | simp [h])⟩
  have hge : vis.length ≤ j := by simpa [V.css_length] using c1
  rw [List.drop_of_length_le hge, itE] at hit
  refine J.exit (thenQ.x (thenQ.x (blkQ.hit (thenQ.n (J.region_lit (Zq rfl (QW.move (.tmp rfl)) (Zq rfl (QW.load_box 0 ty29 (.tmp rfl) rfl (take_at vl rfl) vl) (Zq rfl (QW.nil_ptr (.tmp rfl)) (Zq rfl (QW.field_ptr fo69_0 (.tmp rfl) rfl) ?_)))))))))
  refine Zq rfl (QW.field_ptr fo36_2 (.tmp rfl) rfl) (JL.store_box 3 ty29 (.tmp rfl) rfl (.tmp rfl) rfl vl (by rw [mb_len]; rfl) mb_setit rfl ?_)
  exact JL.nil (Zr [.k, .k, .k, .p, .p] (RetEv.none rfl ) rfl (ItR.ok ((itemsE_yes hv12 (by show vk = 4; simpa using k16)).trans hit) (Nat.le_trans hj hlen) hIj hfj))
end Go.Proofs.YtjhonjdhanlbkaaGreat.J

/- Walks: what the machine does with each item. -/
namespace Go.Proofs.YtjhonjdhanlbkaaGreat.J
open Go Go.RowKit
set_option maxRecDepth 10000
set_option maxHeartbeats 4000000
def outC (v : Value) : List AV := [.c (.int .i64 4), .c (.int .u64 0), .c (str []), .c (.slice none 0 0), .c v]
def ptr (b : Nat) : Value := .pointer (some ⟨b, 0, none⟩)
def wLst (b5 b2 b6 b : Nat) (ye : List AV) (j : Nat) (ys : List V) (o : Own) : Prop := ∃ v, o = .grp [.box b5 (outC v), .arr v eV (V.css false ys), .box b2 [pb b], .box b6 ye] ∧ ys.length ≤ j ∧ ∀ x ∈ ys, x.good
def stMap (y : EX) (s : ScT) (ys : List V) (x : V) (f : Int) : Except Int (Bool × List V × Int) := match y.ev { s with it := x } f with
  | .error e => .error e
  | .ok (v, f') => .ok (true, ys ++ [v], f')
def stFil (y : EX) (s : ScT) (ys : List V) (x : V) (f : Int) : Except Int (Bool × List V × Int) := match truE (y.ev { s with it := x } f) with
  | .error e => .error e
  | .ok (t, f') => .ok (true, if t then ys ++ [x] else ys, f')
theorem stMap_er {y : EX} {s : ScT} {ys : List V} {x : V} {f c : Int} (h : y.ev { s with it := x } f = .error c) : stMap y s ys x f = .error c := by unfold stMap; rw [h]
theorem stMap_ok {y : EX} {s : ScT} {ys : List V} {x v : V} {f f' : Int} (h : y.ev { s with it := x } f = .ok (v, f')) : stMap y s ys x f = .ok (true, ys ++ [v], f') := by unfold stMap; rw [h]
theorem stFil_er {y : EX} {s : ScT} {ys : List V} {x : V} {f c : Int} (h : truE (y.ev { s with it := x } f) = .error c) : stFil y s ys x f = .error c := by unfold stFil; rw [h]
theorem stFil_ok {y : EX} {s : ScT} {ys : List V} {x : V} {f f' : Int} {t : Bool} (h : truE (y.ev { s with it := x } f) = .ok (t, f')) : stFil y s ys x f = .ok (true, if t then ys ++ [x] else ys, f') := by unfold stFil; rw [h]
theorem css_set (ys : List V) (v : V) (z : List AV) : (V.css false ys ++ [z]).set ys.length (v.cs false) = V.css false (ys ++ [v]) := by
  have h : ∀ (l : List V), V.css false (l ++ [v]) = V.css false l ++ [v.cs false] := fun l => by
    induction l with
    | nil => rfl
    | cons x r ih => rw [List.cons_append, V.css, V.css, ih]; rfl
  rw [h, ← V.css_length false ys, List.set_append_right _ _ (Nat.le_refl _), Nat.sub_self]; rfl
theorem css_zero (ys : List V) (z : List AV) : (V.css false ys ++ [z])[ys.length]? = some z := by
  rw [← V.css_length false ys, List.getElem?_append_right (Nat.le_refl _), Nat.sub_self]; rfl
def BodR {β : Type} (W : Nat → β → Own → Prop) (r : Except Int (Bool × β × Int)) (j b : Nat) (s : ScT) : Res → List Own → Prop := PanR (errE r = 0) (errV (errE r)) fun y o => ∃ k σ' f' o1, r = .ok (k, σ', f') ∧ okF f' ∧ W (j + 1) σ' o1 ∧ y = .c (.bool k) ∧ o = [mb b s f', o1]
theorem BodR.er {β : Type} {W : Nat → β → Own → Prop} {r : Except Int (Bool × β × Int)} {j b : Nat} {s : ScT} {c : Int} (h : r = .error c) (hc : ¬ c = 0) : BodR W r j b s (.pan (.iface 38 (.int .i64 c))) [] := .inr ⟨by rw [h]; exact hc, by rw [h]; rfl, rfl⟩
theorem BodR.ok {β : Type} {W : Nat → β → Own → Prop} {r : Except Int (Bool × β × Int)} {j b : Nat} {s : ScT} {k : Bool} {σ : β} {f' : Int} {o1 : Own} (h : r = .ok (k, σ, f')) (hf : okF f') (hW : W (j + 1) σ o1) : BodR W r j b s (.ret (.c (.bool k))) [mb b s f', o1] := .inl ⟨by rw [h]; rfl, _, rfl, k, σ, f', o1, h, hf, hW, rfl, rfl⟩
theorem over1_ok {n : Nat} (ih : EvIH n) {y : EX} {s : ScT} {fr : Bool} (hw : y.wf) (hf : y.Fine) (hs : s.good) (hn : y.sz ≤ n) (b b5 b2 b6 : Nat) {j : Nat} {ys : List V} {x : V} {f : Int} {o0 : Own} (hj : j < 32) (hW : wLst b5 b2 b6 b (y.cs fr) j ys o0) (hx : x.good) (h0 : okF f) :
    AC Tryz.prog 67 [mb b { s with it := x } f, o0] [.agg (x.cs false), .c (ptr b5), .c (ptr b2), .c (ptr b6)] (BodR (wLst b5 b2 b6 b (y.cs fr)) (stMap y s ys x f) j b { s with it := x }) := by
  obtain ⟨v, rfl, hl, hgd⟩ := hW
  refine AC.of_J Tryz.func67 rfl Tryz.ntmps67 rfl fun w0 A0 => ?_
  refine J.seq (J.reown (Reown.cons (Reown.open _ _)) (J.region_lit (JL.box_agg (.tmp rfl) rfl fun b4 => Zq rfl (QW.assign .const) (Zn (J.seq (J.regionX mixed (Zf 0 [] rfl (fun _ => QW.field_ptr fo29_4 (.tmp rfl) rfl) (Zo 1 2 [6] rfl (fun _ ho_ => QW.load_box1 2 ty27 (.tmp rfl) ho_ rfl) ?_))))))))
  refine Zo 2 4 [] rfl (fun _ ho_ => QW.load_box1 4 ty67 (.tmp rfl) ho_ rfl) (Zo 3 5 [] rfl (fun _ ho_ => QW.load_box 5 ty34 (.tmp rfl) ho_ (take_at xl rfl) xl) (Zo 5 3 [7] rfl (fun _ ho_ => QW.len_arr 3 sl27 (.tmp rfl) ho_) (Zf 6 [] rfl (fun _ => QW.buildSlice (idx := [0]) (xs := [[.c (.int .i64 0), .c (.int .u64 0), .c (str []), .c (.slice none 0 0), .c (.slice none 0 0)]]) sl27 el29 z29 rfl (.cons (.constA rfl) .nil) rfl rfl rfl rfl rfl rfl rfl rfl rfl) (JX.one 4 [false, false, true, true, false, false] rfl (by kernel_rfl) (by kernel_rfl) rfl rfl (by kernel_rfl) rfl fun bs4_ pe_ ex_ => ?_))))
  refine JL.conv (by (try simp only [vlF, bxF, tkM, lvM, Flt.val, Flt.bx, nx, nl, stepsO, valO, nthO, curO, mrg, AV.cellsOf, splice_zero, splice_succ, Nat.reduceAdd]); rfl) ?_
  refine JL.callPF [.k, .p] gofn33 rfl Lent.nil (fun _ => (.cons (.tmp rfl) (.cons (.tmp rfl) .nil))) (ih y { s with it := x } f b fr hw hf ⟨hs.st, hs.ev, hx⟩ h0 hn) (.inl rfl) (fun k10 x10 o10 h10 => ?_) (fun k10 => ?_)
  rotate_left
  · skip
    refine thenQ.p (thenQ.p ?_)
    exact ⟨_, selP [.k, .k, .k, .k, .k] _, _, rfl, rfl, sel_perm [.k, .k, .k, .k, .k] _, BodR.er (stMap_er (er_of k10)) k10⟩
  obtain ⟨v10, f10, hv10, rfl, rfl⟩ := h10
  refine JL.nil ?_
  refine thenQ.n ⟨[_], _, rfl, rfl, rfl, rfl, rfl, Reown.mrgN 6 rfl rfl, ⟨rfl, rfl⟩, ⟨trivial, ⟨rfl, ⟨rfl, ⟨trivial, trivial⟩⟩⟩⟩, ?_⟩
  refine JX.conv (S' := [4, 3, 2]) rfl (by (try simp only [lvM]); rfl) (by (try simp only [vlF, bxF, tkM, lvM, Flt.val, Flt.bx, nx, nl, stepsO, valO, nthO, curO, mrg, AV.cellsOf, splice_zero, splice_succ, Nat.reduceAdd]); rfl) ?_
  refine JX.one 7 [true, true, true, true] rfl (by kernel_rfl) (by kernel_rfl) rfl rfl (by kernel_rfl) rfl fun bs7_ pe_ ex_ => ?_
  refine JL.conv (by (try simp only [vlF, bxF, tkM, lvM, Flt.val, Flt.bx, nx, nl, stepsO, valO, nthO, curO, mrg, AV.cellsOf, splice_zero, splice_succ, Nat.reduceAdd]); rfl) ?_
  obtain ⟨hgv, hfv⟩ := ev_okF (s := { s with it := x }) hw hf ⟨hs.st, hs.ev, hx⟩ h0 hv10
  refine JL.append 3 sl27 el29 rfl (.tmp rfl) rfl (srcA_sl sl27 (.tmp rfl)) (by rw [V.css_length]; show (_ + 1) * 80 ≤ _; unfold reach; omega) rfl fun v13 => ?_
  refine JL.nil ?_
  refine thenQ.n ⟨[_], _, rfl, rfl, rfl, rfl, rfl, Reown.tkN 6 rfl, ⟨rfl, rfl⟩, trivial, ?_⟩
  refine JX.conv (S' := [7, 6, 5, 1, 0, 4, 3, 2]) rfl (by (try simp only [lvM]); rfl) (by (try simp only [vlF, bxF, tkM, lvM, Flt.val, Flt.bx, nx, nl, stepsO, valO, nthO, curO, mrg, AV.cellsOf, splice_zero, splice_succ, Nat.reduceAdd]); rfl) ?_
  refine Zo 8 3 [13, 11] rfl (fun _ ho_ => QW.index_arr 3 sl27 ty29 rfl (.tmp rfl) ho_ (.tmp rfl) rfl (by rw [List.length_append, V.css_length]; simp) rfl) ?_
  refine Zf 10 [] rfl (fun _ => QW.field_ptr fo29_4 (.tmp rfl) rfl) ?_
  refine jxPair 9 11 (by kernel_rfl) (by kernel_rfl) ?_ ?_
  · skip
    refine CandX.mk 9 [false, true] rfl rfl rfl (by kernel_rfl) rfl fun bs9_ pe_ ex_ => ?_
    refine JL.conv (by (try simp only [vlF, bxF, tkM, lvM, Flt.val, Flt.bx, nx, nl, stepsO, valO, nthO, curO, mrg, AV.cellsOf, splice_zero, splice_succ, Nat.reduceAdd]); rfl) ?_
    refine JL.store_gp (o := 0) 3 ty29 (.tmp rfl) rfl (css_zero _ _) (by rw [V.css_length]; rfl) (.tmp rfl) rfl vl rfl ((congrArg (List.set _ _) (splice_all (by exact vl))).trans (css_set _ _ _)) rfl ?_
    refine JL.nil ?_
    refine thenQ.n ⟨[], _, rfl, rfl, rfl, rfl, rfl, Reown.tkN 6 rfl, trivial, ⟨trivial, trivial⟩, ?_⟩
    refine JX.conv (S' := [9, 8, 7, 6, 5, 1, 0, 4, 3, 2]) rfl (by (try simp only [lvM]); rfl) (by (try simp only [vlF, bxF, tkM, lvM, Flt.val, Flt.bx, nx, nl, stepsO, valO, nthO, curO, mrg, AV.cellsOf, splice_zero, splice_succ, Nat.reduceAdd]); rfl) ?_
    refine JX.one 11 [true] rfl (by kernel_rfl) (by kernel_rfl) rfl rfl (by kernel_rfl) rfl fun bs11_ pe_ ex_ => ?_
    refine JL.conv (by (try simp only [vlF, bxF, tkM, lvM, Flt.val, Flt.bx, nx, nl, stepsO, valO, nthO, curO, mrg, AV.cellsOf, splice_zero, splice_succ, Nat.reduceAdd]); rfl) ?_
    refine JL.isSlice 3 rfl fun hs1 => JL.store_box 2 ty27 (.tmp rfl) rfl (.tmp rfl) (by assumption) rfl rfl rfl rfl ?_
    refine JL.nil ?_
    refine thenQ.n ⟨[], _, rfl, rfl, rfl, rfl, rfl, Reown.tkN 6 rfl, trivial, trivial, ?_⟩
    refine JX.conv (S' := [11, 10, 9, 8, 7, 6, 5, 1, 0, 4, 3, 2]) rfl (by (try simp only [lvM]); rfl) (by (try simp only [vlF, bxF, tkM, lvM, Flt.val, Flt.bx, nx, nl, stepsO, valO, nthO, curO, mrg, AV.cellsOf, splice_zero, splice_succ, Nat.reduceAdd]); rfl) ?_
    refine JX.fin (by kernel_rfl) (by kernel_rfl) fun bs_ => ?_
    refine QX.conv (by (try simp only [vlF, bxF, tkM, lvM, Flt.val, Flt.bx, nx, nl, stepsO, valO, nthO, curO, mrg, AV.cellsOf, splice_zero, splice_succ, Nat.reduceAdd]); rfl) ?_
    exact thenQ.n (J.seq (J.reown (Reown.cons (Reown.cons (Reown.shut [_, _, _, _] []))) (J.region_lit (Zq rfl (QW.assign .const) (Zn (J.ret (Zr [.k, .p, .p] (RetEv.one rfl (REv.tmp rfl lr)) rfl (BodR.ok (stMap_ok hv10) hfv ⟨_, rfl, by simp; omega, fun z hz => (List.mem_append.1 hz).elim (hgd z) (fun h => by rw [List.mem_singleton.1 h]; exact hgv)⟩))))))))
  · skip
    refine CandX.mk 11 [true, false] rfl rfl rfl (by kernel_rfl) rfl fun bs11_ pe_ ex_ => ?_
    refine JL.conv (by (try simp only [vlF, bxF, tkM, lvM, Flt.val, Flt.bx, nx, nl, stepsO, valO, nthO, curO, mrg, AV.cellsOf, splice_zero, splice_succ, Nat.reduceAdd]); rfl) ?_
    refine JL.isSlice 3 rfl fun hs1 => JL.store_box 2 ty27 (.tmp rfl) rfl (.tmp rfl) (by assumption) rfl rfl rfl rfl ?_
    refine JL.nil ?_
    refine thenQ.n ⟨[], _, rfl, rfl, rfl, rfl, rfl, Reown.tkN 6 rfl, trivial, ⟨rfl, trivial⟩, ?_⟩
    refine JX.conv (S' := [11, 10, 7, 6, 5, 1, 0, 4, 3, 2]) rfl (by (try simp only [lvM]); rfl) (by (try simp only [vlF, bxF, tkM, lvM, Flt.val, Flt.bx, nx, nl, stepsO, valO, nthO, curO, mrg, AV.cellsOf, splice_zero, splice_succ, Nat.reduceAdd]); rfl) ?_
    refine JX.one 9 [true] rfl (by kernel_rfl) (by kernel_rfl) rfl rfl (by kernel_rfl) rfl fun bs9_ pe_ ex_ => ?_
    refine JL.conv (by (try simp only [vlF, bxF, tkM, lvM, Flt.val, Flt.bx, nx, nl, stepsO, valO, nthO, curO, mrg, AV.cellsOf, splice_zero, splice_succ, Nat.reduceAdd]); rfl) ?_
    refine JL.store_gp (o := 0) 3 ty29 (.tmp rfl) rfl (css_zero _ _) (by rw [V.css_length]; rfl) (.tmp rfl) rfl vl rfl ((congrArg (List.set _ _) (splice_all (by exact vl))).trans (css_set _ _ _)) rfl ?_
    refine JL.nil ?_
    refine thenQ.n ⟨[], _, rfl, rfl, rfl, rfl, rfl, Reown.tkN 6 rfl, trivial, trivial, ?_⟩
    refine JX.conv (S' := [9, 8, 11, 10, 7, 6, 5, 1, 0, 4, 3, 2]) rfl (by (try simp only [lvM]); rfl) (by (try simp only [vlF, bxF, tkM, lvM, Flt.val, Flt.bx, nx, nl, stepsO, valO, nthO, curO, mrg, AV.cellsOf, splice_zero, splice_succ, Nat.reduceAdd]); rfl) ?_
    refine JX.fin (by kernel_rfl) (by kernel_rfl) fun bs_ => ?_
    refine QX.conv (by (try simp only [vlF, bxF, tkM, lvM, Flt.val, Flt.bx, nx, nl, stepsO, valO, nthO, curO, mrg, AV.cellsOf, splice_zero, splice_succ, Nat.reduceAdd]); rfl) ?_
    exact thenQ.n (J.seq (J.reown (Reown.cons (Reown.cons (Reown.shut [_, _, _, _] []))) (J.region_lit (Zq rfl (QW.assign .const) (Zn (J.ret (Zr [.k, .p, .p] (RetEv.one rfl (REv.tmp rfl lr)) rfl (BodR.ok (stMap_ok hv10) hfv ⟨_, rfl, by simp; omega, fun z hz => (List.mem_append.1 hz).elim (hgd z) (fun h => by rw [List.mem_singleton.1 h]; exact hgv)⟩))))))))
theorem tr_okF {e : EX} {s : ScT} {f f' : Int} {t : Bool} (hw : e.wf) (hf : e.Fine) (hs : s.good) (h0 : okF f) (h : truE (e.ev s f) = .ok (t, f')) : okF f' := by
  obtain ⟨v, h1, _, _⟩ := truE_ok h
  exact (ev_okF hw hf hs h0 h1).2
def wFnd (b7 b5 b2 b6 b : Nat) (ye : List AV) (j : Nat) (p : Bool × V) (o : Own) : Prop := ∃ zs, o = .grp [.box b7 [.c (.bool p.1)], .box b5 zs, .box b2 [pb b], .box b6 ye] ∧ zs.length = 5 ∧ (p.1 = true → zs = p.2.cs false ∧ p.2.good)
def stFnd (y : EX) (s : ScT) (p : Bool × V) (x : V) (f : Int) : Except Int (Bool × (Bool × V) × Int) := match truE (y.ev { s with it := x } f) with
  | .error e => .error e
  | .ok (t, f') => .ok (!t, (t, if t then x else p.2), f')
theorem stFnd_er {y : EX} {s : ScT} {p : Bool × V} {x : V} {f c : Int} (h : truE (y.ev { s with it := x } f) = .error c) : stFnd y s p x f = .error c := by unfold stFnd; rw [h]
theorem stFnd_ok {y : EX} {s : ScT} {p : Bool × V} {x : V} {f f' : Int} {t : Bool} (h : truE (y.ev { s with it := x } f) = .ok (t, f')) : stFnd y s p x f = .ok (!t, (t, if t then x else p.2), f') := by unfold stFnd; rw [h]
theorem over2_ok {n : Nat} (ih : EvIH n) {y : EX} {s : ScT} {fr : Bool} (hw : y.wf) (hf : y.Fine) (hs : s.good) (hn : y.sz ≤ n) (b b5 b2 b6 : Nat) {j : Nat} {ys : List V} {x : V} {f : Int} {o0 : Own} (hj : j < 32) (hW : wLst b5 b2 b6 b (y.cs fr) j ys o0) (hx : x.good) (h0 : okF f) :
    AC Tryz.prog 68 [mb b { s with it := x } f, o0] [.agg (x.cs false), .c (ptr b2), .c (ptr b6), .c (ptr b5)] (BodR (wLst b5 b2 b6 b (y.cs fr)) (stFil y s ys x f) j b { s with it := x }) := by
  obtain ⟨v, rfl, hl, hgd⟩ := hW
  refine AC.of_J Tryz.func68 rfl Tryz.ntmps68 rfl fun w0 A0 => ?_
  refine J.seq (J.reown (Reown.cons (Reown.open _ _)) (J.region_lit (JL.box_agg (.tmp rfl) rfl fun b4 => Zq rfl (QW.assign .const) (Zn (J.seq (Zs (Zq rfl (QW.load_box1 4 ty67 (.tmp rfl) rfl rfl) (Zq rfl (QW.load_box 5 ty34 (.tmp rfl) rfl (take_at xl rfl) xl) ?_))))))))
  refine JL.callPF [.k, .p] gofn48 rfl Lent.nil (fun _ => (.cons (.tmp rfl) (.cons (.tmp rfl) .nil))) (mtruth_ok (s := { s with it := x }) ih Xc.self hw hf ⟨hs.st, hs.ev, hx⟩ h0 hn) (.inl rfl) (fun k8 x8 o8 h8 => ?_) (fun k8 => ?_)
  rotate_left
  · skip
    refine thenQ.p (thenQ.p ?_)
    exact ⟨_, selP [.k, .k, .k, .k, .k] _, _, rfl, rfl, sel_perm [.k, .k, .k, .k, .k] _, BodR.er (stFil_er (er_of k8)) k8⟩
  obtain ⟨q8, f8, hq8, rfl, rfl⟩ := h8
  refine Zn ?_
  refine J.cond (.tmp rfl) (fun c1 => ?_) (fun c1 => ?_)
  · skip
    obtain rfl : q8 = true := c1
    have hfv := tr_okF (s := { s with it := x }) hw hf ⟨hs.st, hs.ev, hx⟩ h0 hq8
    refine J.regionX mixed (Zf 0 [] rfl (fun _ => QW.field_ptr fo29_4 (.tmp rfl) rfl) (Zo 1 2 [9] rfl (fun _ ho_ => QW.load_box1 2 ty27 (.tmp rfl) ho_ rfl) (Zo 2 0 [] rfl (fun _ ho_ => QW.load_box 0 ty29 (.tmp rfl) ho_ (take_at vl rfl) vl) (Zo 3 3 [10] rfl (fun _ ho_ => QW.len_arr 3 sl27 (.tmp rfl) ho_) (Zf 4 [] rfl (fun _ => QW.buildSlice (idx := [0]) (xs := [[.c (.int .i64 0), .c (.int .u64 0), .c (str []), .c (.slice none 0 0), .c (.slice none 0 0)]]) sl27 el29 z29 rfl (.cons (.constA rfl) .nil) rfl rfl rfl rfl rfl rfl rfl rfl rfl) (JX.one 5 [true, true, true, true, true] rfl (by kernel_rfl) (by kernel_rfl) rfl rfl (by kernel_rfl) rfl fun bs5_ pe_ ex_ => ?_))))))
    refine JL.conv (by (try simp only [vlF, bxF, tkM, lvM, Flt.val, Flt.bx, nx, nl, stepsO, valO, nthO, curO, mrg, AV.cellsOf, splice_zero, splice_succ, Nat.reduceAdd]); rfl) ?_
    refine JL.append 3 sl27 el29 rfl (.tmp rfl) rfl (srcA_sl sl27 (.tmp rfl)) (by rw [V.css_length]; show (_ + 1) * 80 ≤ _; unfold reach; omega) rfl fun v14 => ?_
    refine JL.nil ?_
    refine thenQ.n ⟨[_], _, rfl, rfl, rfl, rfl, rfl, Reown.tkN 6 rfl, ⟨rfl, rfl⟩, trivial, ?_⟩
    refine JX.conv (S' := [5, 4, 3, 2, 1, 0]) rfl (by (try simp only [lvM]); rfl) (by (try simp only [vlF, bxF, tkM, lvM, Flt.val, Flt.bx, nx, nl, stepsO, valO, nthO, curO, mrg, AV.cellsOf, splice_zero, splice_succ, Nat.reduceAdd]); rfl) ?_
    refine Zo 6 3 [14, 12] rfl (fun _ ho_ => QW.index_arr 3 sl27 ty29 rfl (.tmp rfl) ho_ (.tmp rfl) rfl (by rw [List.length_append, V.css_length]; simp) rfl) ?_
    refine Zf 8 [] rfl (fun _ => QW.field_ptr fo29_4 (.tmp rfl) rfl) ?_
    refine jxPair 7 9 (by kernel_rfl) (by kernel_rfl) ?_ ?_
    · skip
      refine CandX.mk 7 [false, true] rfl rfl rfl (by kernel_rfl) rfl fun bs7_ pe_ ex_ => ?_
      refine JL.conv (by (try simp only [vlF, bxF, tkM, lvM, Flt.val, Flt.bx, nx, nl, stepsO, valO, nthO, curO, mrg, AV.cellsOf, splice_zero, splice_succ, Nat.reduceAdd]); rfl) ?_
      refine JL.store_gp (o := 0) 3 ty29 (.tmp rfl) rfl (css_zero _ _) (by rw [V.css_length]; rfl) (.tmp rfl) rfl vl rfl ((congrArg (List.set _ _) (splice_all (by exact vl))).trans (css_set _ _ _)) rfl ?_
      refine JL.nil ?_
      refine thenQ.n ⟨[], _, rfl, rfl, rfl, rfl, rfl, Reown.tkN 6 rfl, trivial, ⟨trivial, trivial⟩, ?_⟩
      refine JX.conv (S' := [7, 6, 5, 4, 3, 2, 1, 0]) rfl (by (try simp only [lvM]); rfl) (by (try simp only [vlF, bxF, tkM, lvM, Flt.val, Flt.bx, nx, nl, stepsO, valO, nthO, curO, mrg, AV.cellsOf, splice_zero, splice_succ, Nat.reduceAdd]); rfl) ?_
      refine JX.one 9 [true] rfl (by kernel_rfl) (by kernel_rfl) rfl rfl (by kernel_rfl) rfl fun bs9_ pe_ ex_ => ?_
      refine JL.conv (by (try simp only [vlF, bxF, tkM, lvM, Flt.val, Flt.bx, nx, nl, stepsO, valO, nthO, curO, mrg, AV.cellsOf, splice_zero, splice_succ, Nat.reduceAdd]); rfl) ?_
      refine JL.isSlice 3 rfl fun hs1 => JL.store_box 2 ty27 (.tmp rfl) rfl (.tmp rfl) (by assumption) rfl rfl rfl rfl ?_
      refine JL.nil ?_
      refine thenQ.n ⟨[], _, rfl, rfl, rfl, rfl, rfl, Reown.tkN 6 rfl, trivial, trivial, ?_⟩
      refine JX.conv (S' := [9, 8, 7, 6, 5, 4, 3, 2, 1, 0]) rfl (by (try simp only [lvM]); rfl) (by (try simp only [vlF, bxF, tkM, lvM, Flt.val, Flt.bx, nx, nl, stepsO, valO, nthO, curO, mrg, AV.cellsOf, splice_zero, splice_succ, Nat.reduceAdd]); rfl) ?_
      refine JX.fin (by kernel_rfl) (by kernel_rfl) fun bs_ => ?_
      refine QX.conv (by (try simp only [vlF, bxF, tkM, lvM, Flt.val, Flt.bx, nx, nl, stepsO, valO, nthO, curO, mrg, AV.cellsOf, splice_zero, splice_succ, Nat.reduceAdd]); rfl) ?_
      exact thenQ.n (J.seq (J.reown (Reown.cons (Reown.cons (Reown.shut [_, _, _, _] []))) (J.region_lit (Zq rfl (QW.assign .const) (Zn (J.ret (Zr [.k, .p, .p] (RetEv.one rfl (REv.tmp rfl lr)) rfl (BodR.ok (σ := ys ++ [x]) (stFil_ok hq8) hfv ⟨_, rfl, by simp; omega, fun z hz => (List.mem_append.1 hz).elim (hgd z) (fun h => by rw [List.mem_singleton.1 h]; exact hx)⟩))))))))
    · skip
      refine CandX.mk 9 [true, false] rfl rfl rfl (by kernel_rfl) rfl fun bs9_ pe_ ex_ => ?_
      refine JL.conv (by (try simp only [vlF, bxF, tkM, lvM, Flt.val, Flt.bx, nx, nl, stepsO, valO, nthO, curO, mrg, AV.cellsOf, splice_zero, splice_succ, Nat.reduceAdd]); rfl) ?_
      refine JL.isSlice 3 rfl fun hs1 => JL.store_box 2 ty27 (.tmp rfl) rfl (.tmp rfl) (by assumption) rfl rfl rfl rfl ?_
      refine JL.nil ?_
      refine thenQ.n ⟨[], _, rfl, rfl, rfl, rfl, rfl, Reown.tkN 6 rfl, trivial, ⟨rfl, trivial⟩, ?_⟩
      refine JX.conv (S' := [9, 8, 5, 4, 3, 2, 1, 0]) rfl (by (try simp only [lvM]); rfl) (by (try simp only [vlF, bxF, tkM, lvM, Flt.val, Flt.bx, nx, nl, stepsO, valO, nthO, curO, mrg, AV.cellsOf, splice_zero, splice_succ, Nat.reduceAdd]); rfl) ?_
      refine JX.one 7 [true] rfl (by kernel_rfl) (by kernel_rfl) rfl rfl (by kernel_rfl) rfl fun bs7_ pe_ ex_ => ?_
      refine JL.conv (by (try simp only [vlF, bxF, tkM, lvM, Flt.val, Flt.bx, nx, nl, stepsO, valO, nthO, curO, mrg, AV.cellsOf, splice_zero, splice_succ, Nat.reduceAdd]); rfl) ?_
      refine JL.store_gp (o := 0) 3 ty29 (.tmp rfl) rfl (css_zero _ _) (by rw [V.css_length]; rfl) (.tmp rfl) rfl vl rfl ((congrArg (List.set _ _) (splice_all (by exact vl))).trans (css_set _ _ _)) rfl ?_
      refine JL.nil ?_
      refine thenQ.n ⟨[], _, rfl, rfl, rfl, rfl, rfl, Reown.tkN 6 rfl, trivial, trivial, ?_⟩
      refine JX.conv (S' := [7, 6, 9, 8, 5, 4, 3, 2, 1, 0]) rfl (by (try simp only [lvM]); rfl) (by (try simp only [vlF, bxF, tkM, lvM, Flt.val, Flt.bx, nx, nl, stepsO, valO, nthO, curO, mrg, AV.cellsOf, splice_zero, splice_succ, Nat.reduceAdd]); rfl) ?_
      refine JX.fin (by kernel_rfl) (by kernel_rfl) fun bs_ => ?_
      refine QX.conv (by (try simp only [vlF, bxF, tkM, lvM, Flt.val, Flt.bx, nx, nl, stepsO, valO, nthO, curO, mrg, AV.cellsOf, splice_zero, splice_succ, Nat.reduceAdd]); rfl) ?_
      exact thenQ.n (J.seq (J.reown (Reown.cons (Reown.cons (Reown.shut [_, _, _, _] []))) (J.region_lit (Zq rfl (QW.assign .const) (Zn (J.ret (Zr [.k, .p, .p] (RetEv.one rfl (REv.tmp rfl lr)) rfl (BodR.ok (σ := ys ++ [x]) (stFil_ok hq8) hfv ⟨_, rfl, by simp; omega, fun z hz => (List.mem_append.1 hz).elim (hgd z) (fun h => by rw [List.mem_singleton.1 h]; exact hx)⟩))))))))
  obtain rfl : q8 = false := c1
  have hfv := tr_okF (s := { s with it := x }) hw hf ⟨hs.st, hs.ev, hx⟩ h0 hq8
  exact Zk (J.seq (J.reown (Reown.cons (Reown.cons (Reown.shut [_, _, _, _] []))) (J.region_lit (Zq rfl (QW.assign .const) (Zn (J.ret (Zr [.k, .p, .p] (RetEv.one rfl (REv.tmp rfl lr)) rfl (BodR.ok (σ := ys) (stFil_ok hq8) hfv ⟨_, rfl, by omega, hgd⟩))))))))
theorem over3_ok {n : Nat} (ih : EvIH n) {y : EX} {s : ScT} {fr : Bool} (hw : y.wf) (hf : y.Fine) (hs : s.good) (hn : y.sz ≤ n) (b b5 b2 b6 b7 : Nat) {j : Nat} {p : Bool × V} {x : V} {f : Int} {o0 : Own} (hj : j < 32) (hW : wFnd b7 b5 b2 b6 b (y.cs fr) j p o0) (hx : x.good) (h0 : okF f) :
    AC Tryz.prog 69 [mb b { s with it := x } f, o0] [.agg (x.cs false), .c (ptr b2), .c (ptr b6), .c (ptr b7), .c (ptr b5)] (BodR (wFnd b7 b5 b2 b6 b (y.cs fr)) (stFnd y s p x f) j b { s with it := x }) := by
  obtain ⟨zs, rfl, hz5, hzs⟩ := hW
  refine AC.of_J Tryz.func69 rfl Tryz.ntmps69 rfl fun w0 A0 => ?_
  refine J.seq (J.reown (Reown.cons (Reown.open _ _)) (J.region_lit (JL.box_agg (.tmp rfl) rfl fun b5 => Zq rfl (QW.assign .const) (Zn (J.seq (Zs (Zq rfl (QW.load_box1 4 ty67 (.tmp rfl) rfl rfl) (Zq rfl (QW.load_box 5 ty34 (.tmp rfl) rfl (take_at xl rfl) xl) ?_))))))))
  refine JL.callPF [.k, .p] gofn48 rfl Lent.nil (fun _ => (.cons (.tmp rfl) (.cons (.tmp rfl) .nil))) (mtruth_ok (s := { s with it := x }) ih Xc.self hw hf ⟨hs.st, hs.ev, hx⟩ h0 hn) (.inl rfl) (fun k9 x9 o9 h9 => ?_) (fun k9 => ?_)
  rotate_left
  · skip
    refine thenQ.p (thenQ.p ?_)
    exact ⟨_, selP [.k, .k, .k, .k, .k] _, _, rfl, rfl, sel_perm [.k, .k, .k, .k, .k] _, BodR.er (stFnd_er (er_of k9)) k9⟩
  obtain ⟨q9, f9, hq9, rfl, rfl⟩ := h9
  refine JL.store_box 2 ty4 (.tmp rfl) rfl (.tmp rfl) rfl rfl rfl rfl rfl (Zn (Zs (Zq rfl (QW.load_box1 2 ty4 (.tmp rfl) rfl rfl) (Zn ?_))))
  refine J.cond (.tmp rfl) (fun c1 => ?_) (fun c1 => ?_)
  · skip
    obtain rfl : q9 = true := c1
    have hfv := tr_okF (s := { s with it := x }) hw hf ⟨hs.st, hs.ev, hx⟩ h0 hq9
    refine J.region_lit (Zq rfl (QW.load_box 0 ty29 (.tmp rfl) rfl (take_at vl rfl) vl) (JL.store_box 3 ty29 (.tmp rfl) rfl (.tmp rfl) rfl vl (by rw [hz5]; rfl) (splice_all (by show (V.cs _ _).length = _; rw [V.cs_length, hz5])) rfl ?_))
    exact Zn (Zs (Zq rfl (QW.load_box1 2 ty4 (.tmp rfl) rfl rfl) (Zq rfl (QW.not (.tmp rfl)) (JL.reown (Reown.cons (Reown.cons (Reown.shut [_, _, _, _] []))) (Zq rfl (QW.assign (.tmp rfl)) (Zn (J.ret (Zr [.k, .p, .p] (RetEv.one rfl (REv.tmp rfl lr)) rfl (BodR.ok (σ := (true, x)) (stFnd_ok hq9) hfv ⟨_, rfl, vl, fun _ => ⟨rfl, hx⟩⟩)))))))))
  obtain rfl : q9 = false := c1
  have hfv := tr_okF (s := { s with it := x }) hw hf ⟨hs.st, hs.ev, hx⟩ h0 hq9
  exact Zk (Zs (Zq rfl (QW.load_box1 2 ty4 (.tmp rfl) rfl rfl) (Zq rfl (QW.not (.tmp rfl)) (JL.reown (Reown.cons (Reown.cons (Reown.shut [_, _, _, _] []))) (Zq rfl (QW.assign (.tmp rfl)) (Zn (J.ret (Zr [.k, .p, .p] (RetEv.one rfl (REv.tmp rfl lr)) rfl (BodR.ok (σ := (false, p.2)) (stFnd_ok hq9) hfv ⟨_, rfl, hz5, fun h => by cases h⟩)))))))))
end Go.Proofs.YtjhonjdhanlbkaaGreat.J

/- Walks: Map, Filter, Find. -/
namespace Go.Proofs.YtjhonjdhanlbkaaGreat.J
open Go Go.RowKit
set_option maxRecDepth 10000
set_option maxHeartbeats 4000000
theorem li_wf32 {l : List V} (hl : ∀ x ∈ l, x.good) (hn : l.length ≤ 32) : (V.li l).wf := .mk (by decide) (by decide) (by decide) (by decide) (by unfold reach; omega) (fun _ h => by cases h) (fun x hx => (hl x hx).wf)
theorem Reown.ovL (b6 b5 b4 b3 b2 m : Own) (l : List Own) : Reown (b6 :: b5 :: b4 :: b3 :: b2 :: m :: l) (b4 :: b3 :: m :: .grp [b5, .arr (.slice none 0 0) eV [], b2, b6] :: l) :=
  (Reown.nilArr eV _).trans ⟨fun x => by simp only [fps_cons, fps_nil, fp_grp, List.count_append, List.count_nil]; omega, fun w A h => by
    simp only [List.forall_mem_cons, ok_grp, List.not_mem_nil, false_implies, implies_true, and_true] at h ⊢
    exact ⟨h.2.2.2.1, h.2.2.2.2.1, h.2.2.2.2.2.2.1, ⟨h.2.2.1, h.1, h.2.2.2.2.2.1, h.2.1⟩, h.2.2.2.2.2.2.2⟩⟩
theorem Reown.ovF (b7 b6 b5 b4 b3 b2 m : Own) (l : List Own) : Reown (b7 :: b6 :: b5 :: b4 :: b3 :: b2 :: m :: l) (b4 :: b3 :: m :: .grp [b7, b5, b2, b6] :: l) :=
  ⟨fun x => by simp only [fps_cons, fps_nil, fp_grp, List.count_append, List.count_nil]; omega, fun w A h => by
    simp only [List.forall_mem_cons, ok_grp, List.not_mem_nil, false_implies, implies_true, and_true] at h ⊢
    exact ⟨h.2.2.2.1, h.2.2.2.2.1, h.2.2.2.2.2.2.1, ⟨h.1, h.2.2.1, h.2.2.2.2.2.1, h.2.1⟩, h.2.2.2.2.2.2.2⟩⟩
/-! what the loops come to -/
theorem it_map {y : EX} {s : ScT} : ∀ (l ys : List V) (f : Int), itE (stMap y s) l ys f = match mapE (fun it f => y.ev { s with it } f) l f with
    | .error e => .error e
    | .ok (r, f') => .ok (ys ++ r, f')
  | [], ys, f => by simp [itE, mapE]
  | x :: l, ys, f => by
    rw [itE, mapE, stMap]
    cases h : y.ev { s with it := x } f with
    | error c => rfl
    | ok p =>
      obtain ⟨v, f1⟩ := p
      simp only [if_true]
      rw [it_map l (ys ++ [v]) f1]
      cases mapE (fun it f => y.ev { s with it } f) l f1 with
      | error c => rfl
      | ok q => simp
theorem it_fil {y : EX} {s : ScT} : ∀ (l ys : List V) (f : Int), itE (stFil y s) l ys f = match filE (fun it f => truE (y.ev { s with it } f)) l f with
    | .error e => .error e
    | .ok (r, f') => .ok (ys ++ r, f')
  | [], ys, f => by simp [itE, filE]
  | x :: l, ys, f => by
    rw [itE, filE, stFil]
    cases h : truE (y.ev { s with it := x } f) with
    | error c => rfl
    | ok p =>
      obtain ⟨t, f1⟩ := p
      simp only [if_true]
      rw [it_fil l _ f1]
      cases filE (fun it f => truE (y.ev { s with it } f)) l f1 with
      | error c => rfl
      | ok q => cases t <;> simp
def fndX (x : Except Int ((Bool × V) × Int)) : ER V := match x with
    | .error e => .error e
    | .ok ((t, x), f') => if t then .ok (x, f') else .error 71
theorem it_fnd {y : EX} {s : ScT} : ∀ (l : List V) (p : Bool × V) (f : Int), p.1 = false → fndE (fun it f => truE (y.ev { s with it } f)) l f = fndX (itE (stFnd y s) l p f)
  | [], ⟨t, v⟩, f, h => by cases h; rfl
  | x :: l, p, f, h => by
    rw [itE, fndE, stFnd]
    cases h : truE (y.ev { s with it := x } f) with
    | error c => rfl
    | ok q =>
      obtain ⟨t, f1⟩ := q
      cases t with
      | true => rfl
      | false => exact it_fnd l (false, p.2) f1 rfl
def ovG (y : EX) (s : ScT) : V → Int → ER V := fun it f => y.ev { s with it } f
theorem ev_ov (o : Int) (a y : EX) (s : ScT) (f : Int) : EX.evOv o [a, y] s f = overE o (ovG y s) (a.ev s f) := by unfold EX.evOv; rfl
theorem ovMap {y : EX} {s : ScT} {r : ER V} {x : Except Int (List V × Int)} (h : itemsE (stMap y s) [] r = x) : overE 27 (ovG y s) r = madeF x := by
  subst h
  cases r with
  | error c => rfl
  | ok p =>
    obtain ⟨v, f⟩ := p
    unfold overE itemsE
    by_cases hk : v.kind = 4
    · simp only [hk]; rw [it_map]; show madeF (mapE (ovG y s) v.items f) = _; unfold ovG; cases mapE (fun it f => y.ev { s with it } f) v.items f <;> rfl
    · simp only [ne_eq, hk, not_false_eq_true, if_true]; rfl
theorem ovFil {y : EX} {s : ScT} {r : ER V} {x : Except Int (List V × Int)} (h : itemsE (stFil y s) [] r = x) : overE 28 (ovG y s) r = madeF x := by
  subst h
  cases r with
  | error c => rfl
  | ok p =>
    obtain ⟨v, f⟩ := p
    unfold overE itemsE
    by_cases hk : v.kind = 4
    · simp only [hk]; rw [it_fil]; show madeF (filE (fun x f => truE (ovG y s x f)) v.items f) = _; unfold ovG; cases filE (fun it f => truE (y.ev { s with it } f)) v.items f <;> rfl
    · simp only [ne_eq, hk, not_false_eq_true, if_true]; rfl
theorem ovFnd {y : EX} {s : ScT} {r : ER V} {x : Except Int ((Bool × V) × Int)} (h : itemsE (stFnd y s) (false, .nil) r = x) : overE 29 (ovG y s) r = fndX x := by
  subst h
  cases r with
  | error c => rfl
  | ok p =>
    obtain ⟨v, f⟩ := p
    by_cases hk : v.kind = 4
    · rw [show itemsE (stFnd y s) (false, .nil) (.ok (v, f)) = itE (stFnd y s) v.items (false, .nil) f from if_neg (fun h => h hk), show overE 29 (ovG y s) (.ok (v, f)) = fndE (fun x f => truE (ovG y s x f)) v.items f from (if_neg (fun h => h hk)).trans rfl]
      exact it_fnd v.items (false, .nil) f rfl
    · rw [show itemsE (stFnd y s) (false, .nil) (.ok (v, f)) = .error 81 from if_pos hk, show overE 29 (ovG y s) (.ok (v, f)) = .error 81 from if_pos hk]; rfl
theorem madeF_yes {l : List V} {f : Int} (h : (V.li l).err = 0) : madeF (.ok (l, f)) = .ok (.li l, f) := by unfold madeF madeE; simp only [h, if_true]
theorem madeF_no {l : List V} {f : Int} (h : ¬ (V.li l).err = 0) : madeF (.ok (l, f)) = .error 84 := by unfold madeF madeE; simp only [h, if_false]
theorem mover_ok {n : Nat} (ih : EvIH n) {o : Int} {bb : Nat} {t : Str} {a y : EX} {s : ScT} {f : Int} {b : Nat} {fr : Bool} {ys : List AV} (he : Xc fr (.mk o bb t [a, y]) ys) (ho : o = 27 ∨ o = 28 ∨ o = 29) (hwa : a.wf) (hwy : y.wf) (hfa : a.Fine) (hfy : y.Fine) (hna : a.sz ≤ n) (hny : y.sz ≤ n) (hs : s.good) (h0 : okF f) :
    AC Tryz.prog 49 [mb b s f] [pb b, .agg ys] (EvR (EX.evOv o [a, y] s f) b s) := by
  subst he
  refine AC.of_J Tryz.func49 rfl Tryz.ntmps49 rfl fun w0 A0 => ?_
  refine Zs (JL.box_one (.tmp rfl) rfl rfl fun b2 => JL.box_agg (.tmp rfl) rfl fun b3 => JL.alloc z29 rfl rfl fun b4 => Zn (Zs (Zq rfl (QW.build (idx := [0]) pl29 z29 rfl (.cons .const .nil) rfl rfl rfl rfl) (JL.alloc z29 rfl rfl fun b5 => JL.store_boxF 0 ty29 (.tmp rfl) rfl (.tmp rfl) rfl rfl rfl rfl (Zn ?_)))))
  refine J.seq (Zs (Zq rfl (QW.field_ptr fo34_3 (.tmp rfl) rfl) (Zq rfl (QW.load_box1 2 ty32 (.tmp rfl) rfl rfl) (Zq rfl (QW.index_sl sl32 ty34 rfl (.tmp rfl) .const rfl (by rfl)) ?_))))
  refine Zq rfl (QW.load_ref ty34 (.tmp rfl) (take_at0 xl rfl) xl) (JL.alloc z34 rfl rfl fun b6 => JL.store_boxF 0 ty34 (.tmp rfl) rfl (.tmp rfl) rfl xl rfl rfl (Zn (Zs (Zq rfl (QW.field_ptr fo34_0 (.tmp rfl) rfl) (Zq rfl (QW.load_box1 3 ty3 (.tmp rfl) rfl rfl) (Zn (J.block (Zs ?_))))))))
  refine Zq rfl (QW.eql (.tmp rfl) .const) (Zq rfl (QW.assign (.tmp rfl)) (Zn ?_))
  refine J.cond (.tmp rfl) (fun c1 => ?_) (fun c1 => ?_)
  · skip
    obtain rfl : o = 27 := by simpa using c1
    refine J.regionX mixed (Zo 0 4 [] rfl (fun _ ho_ => QW.load_box1 4 ty67 (.tmp rfl) ho_ rfl) (Zf 1 [] rfl (fun _ => QW.field_ptr fo34_3 (.tmp rfl) rfl) (Zo 2 3 [28] rfl (fun _ ho_ => QW.load_box1 3 ty32 (.tmp rfl) ho_ rfl) (Zf 3 [29] rfl (fun _ => QW.index_sl sl32 ty34 rfl (.tmp rfl) .const rfl (by rfl)) ?_))))
    refine Zf 4 [30] rfl (fun _ => QW.load_ref ty34 (.tmp rfl) (take_at0 xl rfl) xl) (Zf 5 [] rfl (fun _ => QW.mkFunc .nil (.cons (.tmp rfl) (.cons (.tmp rfl) (.cons (.tmp rfl) .nil)))) (JX.one 6 [true, true, true, true, true, true] rfl (by kernel_rfl) (by kernel_rfl) rfl rfl (by kernel_rfl) rfl fun bs6_ pe_ ex_ => ?_))
    refine JL.conv (by (try simp only [vlF, bxF, tkM, lvM, Flt.val, Flt.bx, nx, nl, stepsO, valO, nthO, curO, mrg, AV.cellsOf, splice_zero, splice_succ, Nat.reduceAdd]); rfl) ?_
    refine JL.reown (Reown.ovL _ _ _ _ _ _ _) ?_
    refine JL.callPF [.k, .k, .p, .p] gofn66 rfl Lent.nil (fun _ => (.cons (.tmp rfl) (.cons (.tmp rfl) (.cons (.tmp rfl) .nil)))) (mitems_ok (W := wLst b5 b2 b6 b (y.cs fr)) (stp := stMap y s) (ca := [ptr b5, ptr b2, ptr b6]) ih gofn67 (fun j σ x f o0 hj hW hx h0 => over1_ok ih hwy hfy hs hny b b5 b2 b6 hj hW hx h0) Xc.self hwa hfa hs h0 hna (σ0 := []) ⟨_, rfl, Nat.le_refl _, fun _ h => by cases h⟩) (.inl rfl) (fun k33 x33 o33 h33 => ?_) (fun k33 => ?_)
    rotate_left
    · skip
      refine thenQ.p (blkQ.p (thenQ.p ?_))
      exact ⟨_, selP [.k, .k] _, _, rfl, rfl, sel_perm [.k, .k] _, EvR.er ((ev_ov 27 a y s f).trans (ovMap (er_of k33))) k33⟩
    obtain ⟨σ1, f1, j1, o1_, hi1, hj1, ⟨v1, rfl, hl1, hgd1⟩, hf1, rfl, rfl⟩ := h33
    refine JL.nil ?_
    refine thenQ.n ⟨[_], _, rfl, rfl, rfl, rfl, rfl, Reown.mrgN 4 rfl rfl, ⟨rfl, rfl⟩, trivial, ?_⟩
    refine JX.conv (S' := [6, 5, 4, 3, 2, 1, 0]) rfl (by (try simp only [lvM]); rfl) (by (try simp only [vlF, bxF, tkM, lvM, Flt.val, Flt.bx, nx, nl, stepsO, valO, nthO, curO, mrg, AV.cellsOf, splice_zero, splice_succ, Nat.reduceAdd]); rfl) ?_
    refine JX.fin (by kernel_rfl) (by kernel_rfl) fun bs_ => ?_
    refine QX.conv (by (try simp only [vlF, bxF, tkM, lvM, Flt.val, Flt.bx, nx, nl, stepsO, valO, nthO, curO, mrg, AV.cellsOf, splice_zero, splice_succ, Nat.reduceAdd]); rfl) ?_
    refine blkQ.n (thenQ.n (J.seq (J.reown (Reown.cons (Reown.cons (Reown.cons (Reown.open _ [])))) (J.closeArr 4 rfl (by rw [V.css_length]; show _ * 80 ≤ _; unfold reach; omega) rfl (fun z hz => by simp only [mb, fps_cons, fps_nil, Own.fp, List.append_nil, List.mem_singleton] at hz; subst hz; simp [mb, fps_cons, Own.fp]) ?_))))
    refine J.region_lit (Zq rfl (QW.load_box 3 ty29 (.tmp rfl) rfl rfl rfl) ?_)
    refine JL.callPF [] gofn70 rfl Lent.nil (fun _ => (.cons (Ev.le (.tmp rfl) (.aggL (.cons lr (.cons lr (.cons lr (.cons (.nil false false _) (.cons (.fact (by simp) (.slL (fr := true) (clip := false) (fun h => by cases h) rfl (V.css_sz false _) (.refl _))) .nil))))))) .nil)) (made_ok (fr := false) (v := .li σ1) Vc.self (li_wf32 hgd1 (by omega))) (.inl rfl) (fun k44 x44 o44 h44 => ?_) (fun k44 => ?_)
    rotate_left
    · skip
      refine thenQ.p ?_
      exact ⟨_, selP [.k, .k, .k, .k, .k, .k] _, _, rfl, rfl, sel_perm [.k, .k, .k, .k, .k, .k] _, EvR.er (c := 84) ((ev_ov 27 a y s f).trans ((ovMap hi1).trans (madeF_no k44))) (by decide)⟩
    obtain ⟨rfl, rfl⟩ := h44
    exact JL.store_boxF 0 ty29 (.tmp rfl) rfl (.tmp rfl) rfl rfl rfl rfl (Zn (J.ret (Zr [.k, .k, .p, .k, .k, .k] (RetEv.one rfl (REv.cell 0 ty29 rfl rfl rfl rfl lr)) rfl (EvR.ok ((ev_ov 27 a y s f).trans ((ovMap hi1).trans (madeF_yes k44)))))))
  have n27 : ¬ o = 27 := by simpa using c1
  refine Zs (Zq rfl (QW.eql (.tmp rfl) .const) (Zq rfl (QW.assign (.tmp rfl)) (Zn ?_)))
  refine J.cond (.tmp rfl) (fun c2 => ?_) (fun c2 => ?_)
  · skip
    obtain rfl : o = 28 := by simpa using c2
    refine J.regionX mixed (Zo 0 4 [] rfl (fun _ ho_ => QW.load_box1 4 ty67 (.tmp rfl) ho_ rfl) (Zf 1 [] rfl (fun _ => QW.field_ptr fo34_3 (.tmp rfl) rfl) (Zo 2 3 [37] rfl (fun _ ho_ => QW.load_box1 3 ty32 (.tmp rfl) ho_ rfl) (Zf 3 [38] rfl (fun _ => QW.index_sl sl32 ty34 rfl (.tmp rfl) .const rfl (by rfl)) ?_))))
    refine Zf 4 [39] rfl (fun _ => QW.load_ref ty34 (.tmp rfl) (take_at0 xl rfl) xl) (Zf 5 [] rfl (fun _ => QW.mkFunc .nil (.cons (.tmp rfl) (.cons (.tmp rfl) (.cons (.tmp rfl) .nil)))) (JX.one 6 [true, true, true, true, true, true] rfl (by kernel_rfl) (by kernel_rfl) rfl rfl (by kernel_rfl) rfl fun bs6_ pe_ ex_ => ?_))
    refine JL.conv (by (try simp only [vlF, bxF, tkM, lvM, Flt.val, Flt.bx, nx, nl, stepsO, valO, nthO, curO, mrg, AV.cellsOf, splice_zero, splice_succ, Nat.reduceAdd]); rfl) ?_
    refine JL.reown (Reown.ovL _ _ _ _ _ _ _) ?_
    refine JL.callPF [.k, .k, .p, .p] gofn66 rfl Lent.nil (fun _ => (.cons (.tmp rfl) (.cons (.tmp rfl) (.cons (.tmp rfl) .nil)))) (mitems_ok (W := wLst b5 b2 b6 b (y.cs fr)) (stp := stFil y s) (ca := [ptr b2, ptr b6, ptr b5]) ih gofn68 (fun j σ x f o0 hj hW hx h0 => over2_ok ih hwy hfy hs hny b b5 b2 b6 hj hW hx h0) Xc.self hwa hfa hs h0 hna (σ0 := []) ⟨_, rfl, Nat.le_refl _, fun _ h => by cases h⟩) (.inl rfl) (fun k42 x42 o42 h42 => ?_) (fun k42 => ?_)
    rotate_left
    · skip
      refine thenQ.p (blkQ.p (thenQ.p ?_))
      exact ⟨_, selP [.k, .k] _, _, rfl, rfl, sel_perm [.k, .k] _, EvR.er ((ev_ov 28 a y s f).trans (ovFil (er_of k42))) k42⟩
    obtain ⟨σ1, f1, j1, o1_, hi1, hj1, ⟨v1, rfl, hl1, hgd1⟩, hf1, rfl, rfl⟩ := h42
    refine JL.nil ?_
    refine thenQ.n ⟨[_], _, rfl, rfl, rfl, rfl, rfl, Reown.mrgN 4 rfl rfl, ⟨rfl, rfl⟩, trivial, ?_⟩
    refine JX.conv (S' := [6, 5, 4, 3, 2, 1, 0]) rfl (by (try simp only [lvM]); rfl) (by (try simp only [vlF, bxF, tkM, lvM, Flt.val, Flt.bx, nx, nl, stepsO, valO, nthO, curO, mrg, AV.cellsOf, splice_zero, splice_succ, Nat.reduceAdd]); rfl) ?_
    refine JX.fin (by kernel_rfl) (by kernel_rfl) fun bs_ => ?_
    refine QX.conv (by (try simp only [vlF, bxF, tkM, lvM, Flt.val, Flt.bx, nx, nl, stepsO, valO, nthO, curO, mrg, AV.cellsOf, splice_zero, splice_succ, Nat.reduceAdd]); rfl) ?_
    refine blkQ.n (thenQ.n (J.seq (J.reown (Reown.cons (Reown.cons (Reown.cons (Reown.open _ [])))) (J.closeArr 4 rfl (by rw [V.css_length]; show _ * 80 ≤ _; unfold reach; omega) rfl (fun z hz => by simp only [mb, fps_cons, fps_nil, Own.fp, List.append_nil, List.mem_singleton] at hz; subst hz; simp [mb, fps_cons, Own.fp]) ?_))))
    refine J.region_lit (Zq rfl (QW.load_box 3 ty29 (.tmp rfl) rfl rfl rfl) ?_)
    refine JL.callPF [] gofn70 rfl Lent.nil (fun _ => (.cons (Ev.le (.tmp rfl) (.aggL (.cons lr (.cons lr (.cons lr (.cons (.nil false false _) (.cons (.fact (by simp) (.slL (fr := true) (clip := false) (fun h => by cases h) rfl (V.css_sz false _) (.refl _))) .nil))))))) .nil)) (made_ok (fr := false) (v := .li σ1) Vc.self (li_wf32 hgd1 (by omega))) (.inl rfl) (fun k44 x44 o44 h44 => ?_) (fun k44 => ?_)
    rotate_left
    · skip
      refine thenQ.p ?_
      exact ⟨_, selP [.k, .k, .k, .k, .k, .k] _, _, rfl, rfl, sel_perm [.k, .k, .k, .k, .k, .k] _, EvR.er (c := 84) ((ev_ov 28 a y s f).trans ((ovFil hi1).trans (madeF_no k44))) (by decide)⟩
    obtain ⟨rfl, rfl⟩ := h44
    exact JL.store_boxF 0 ty29 (.tmp rfl) rfl (.tmp rfl) rfl rfl rfl rfl (Zn (J.ret (Zr [.k, .k, .p, .k, .k, .k] (RetEv.one rfl (REv.cell 0 ty29 rfl rfl rfl rfl lr)) rfl (EvR.ok ((ev_ov 28 a y s f).trans ((ovFil hi1).trans (madeF_yes k44)))))))
  have n28 : ¬ o = 28 := by simpa using c2
  obtain rfl : o = 29 := by omega
  refine Zs (JL.alloc z4 rfl rfl fun b7 => JL.store_box 0 ty4 (.tmp rfl) rfl .const rfl rfl rfl rfl rfl (Zn (J.seq (J.regionX mixed (Zo 0 5 [] rfl (fun _ ho_ => QW.load_box1 5 ty67 (.tmp rfl) ho_ rfl) (Zf 1 [] rfl (fun _ => QW.field_ptr fo34_3 (.tmp rfl) rfl) (Zo 2 4 [16] rfl (fun _ ho_ => QW.load_box1 4 ty32 (.tmp rfl) ho_ rfl) (Zf 3 [17] rfl (fun _ => QW.index_sl sl32 ty34 rfl (.tmp rfl) .const rfl (by rfl)) ?_))))))))
  refine Zf 4 [18] rfl (fun _ => QW.load_ref ty34 (.tmp rfl) (take_at0 xl rfl) xl) (Zf 5 [] rfl (fun _ => QW.mkFunc .nil (.cons (.tmp rfl) (.cons (.tmp rfl) (.cons (.tmp rfl) (.cons (.tmp rfl) .nil))))) (JX.one 6 [true, true, true, true, true, true] rfl (by kernel_rfl) (by kernel_rfl) rfl rfl (by kernel_rfl) rfl fun bs6_ pe_ ex_ => ?_))
  refine JL.conv (by (try simp only [vlF, bxF, tkM, lvM, Flt.val, Flt.bx, nx, nl, stepsO, valO, nthO, curO, mrg, AV.cellsOf, splice_zero, splice_succ, Nat.reduceAdd]); rfl) ?_
  refine JL.reown (Reown.ovF _ _ _ _ _ _ _ _) ?_
  refine JL.callPF [.k, .k, .p, .p] gofn66 rfl Lent.nil (fun _ => (.cons (.tmp rfl) (.cons (.tmp rfl) (.cons (.tmp rfl) .nil)))) (mitems_ok (W := wFnd b7 b5 b2 b6 b (y.cs fr)) (stp := stFnd y s) (ca := [ptr b2, ptr b6, ptr b7, ptr b5]) ih gofn69 (fun j σ x f o0 hj hW hx h0 => over3_ok ih hwy hfy hs hny b b5 b2 b6 b7 hj hW hx h0) Xc.self hwa hfa hs h0 hna (σ0 := (false, .nil)) ⟨_, rfl, rfl, fun h => by cases h⟩) (.inl rfl) (fun k21 x21 o21 h21 => ?_) (fun k21 => ?_)
  rotate_left
  · skip
    refine thenQ.p (thenQ.p (blkQ.p (thenQ.p ?_)))
    exact ⟨_, selP [.k, .k] _, _, rfl, rfl, sel_perm [.k, .k] _, EvR.er ((ev_ov 29 a y s f).trans (ovFnd (er_of k21))) k21⟩
  obtain ⟨⟨t1, x1⟩, f1, j1, o1_, hi1, hj1, ⟨zs, rfl, hz5, hzs⟩, hf1, rfl, rfl⟩ := h21
  refine JL.nil ?_
  refine thenQ.n ⟨[_], _, rfl, rfl, rfl, rfl, rfl, Reown.mrgN 4 rfl rfl, ⟨rfl, rfl⟩, trivial, ?_⟩
  refine JX.conv (S' := [6, 5, 4, 3, 2, 1, 0]) rfl (by (try simp only [lvM]); rfl) (by (try simp only [vlF, bxF, tkM, lvM, Flt.val, Flt.bx, nx, nl, stepsO, valO, nthO, curO, mrg, AV.cellsOf, splice_zero, splice_succ, Nat.reduceAdd]); rfl) ?_
  refine JX.fin (by kernel_rfl) (by kernel_rfl) fun bs_ => ?_
  refine QX.conv (by (try simp only [vlF, bxF, tkM, lvM, Flt.val, Flt.bx, nx, nl, stepsO, valO, nthO, curO, mrg, AV.cellsOf, splice_zero, splice_succ, Nat.reduceAdd]); rfl) ?_
  refine thenQ.n (J.seq (J.reown (Reown.cons (Reown.cons (Reown.cons (Reown.open _ [])))) (J.region_lit (Zq rfl (QW.load_box1 3 ty4 (.tmp rfl) rfl rfl) ?_))))
  refine JL.callPF [] gofn45 rfl Lent.nil (fun _ => (.cons (.tmp rfl) (.cons .const .nil))) (nd_ok _ _) (.inl rfl) (fun k23 x23 o23 h23 => ?_) (fun k23 => ?_)
  rotate_left
  · skip
    refine thenQ.p (blkQ.p (thenQ.p ?_))
    exact ⟨_, selP [.k, .k, .k, .k, .k, .k, .k] _, _, rfl, rfl, sel_perm [.k, .k, .k, .k, .k, .k, .k] _, EvR.er (c := 71) ((ev_ov 29 a y s f).trans ((ovFnd hi1).trans (if_neg k23))) (by decide)⟩
  obtain ⟨rfl, rfl⟩ := h23
  refine Zn (J.seq ?_)
  obtain ⟨rfl, hgx⟩ := hzs k23
  exact J.region_lit (Zq rfl (QW.load_box 4 ty29 (.tmp rfl) rfl (take_at vl rfl) vl) (JL.store_boxF 0 ty29 (.tmp rfl) rfl (.tmp rfl) rfl vl rfl rfl (Zn (J.ret (blkQ.r (thenQ.r (Zr [.k, .k, .p, .k, .k, .k, .k] (RetEv.one rfl (REv.cell 0 ty29 rfl rfl (take_at vl rfl) vl lr)) rfl (EvR.ok ((ev_ov 29 a y s f).trans ((ovFnd hi1).trans (if_pos k23)))))))))))
end Go.Proofs.YtjhonjdhanlbkaaGreat.J

/- What the machine's branches come to, plain. -/
namespace Go.Proofs.YtjhonjdhanlbkaaGreat.J
open Go Go.RowKit
theorem EX.ok_args {o : Int} {b : Nat} {t : Str} {l : List EX} (h : (EX.mk o b t l).ok = true) : 0 ≤ o ∧ o < 30 ∧ l.length ≤ 8 ∧ (o = 23 ∨ o ≤ 7 ∨ ((o = 8 ∨ o = 10 ∨ o = 15 ∨ o = 20 ∨ o = 26) ∧ l.length = 1) ∨ (o = 21 ∧ l.length = 3) ∨ (8 ≤ o ∧ o ≠ 8 ∧ o ≠ 10 ∧ o ≠ 15 ∧ o ≠ 20 ∧ o ≠ 26 ∧ o ≠ 21 ∧ o ≠ 23 ∧ l.length = 2)) := by
  have hb := EX.ok_bounds h
  simp only [EX.ok, Bool.and_eq_true, Bool.or_eq_true, decide_eq_true_eq, beq_iff_eq] at h
  obtain ⟨⟨⟨⟨⟨-, h1⟩, -⟩, -⟩, -⟩, -⟩ := h
  simp only [EX.op, EX.args] at h1
  unfold argsN at h1
  refine ⟨hb.1, hb.2.1, hb.2.2.2, ?_⟩
  repeat' split at h1
  all_goals omega
theorem etwo {l : List EX} (h : l.length = 2) : ∃ a b, l = [a, b] := by
  match l, h with
  | [a, b], _ => exact ⟨a, b, rfl⟩
theorem ethree {l : List EX} (h : l.length = 3) : ∃ a b c, l = [a, b, c] := by
  match l, h with
  | [a, b, c], _ => exact ⟨a, b, c, rfl⟩
section
variable {o : Int} {b : Nat} {t : Str} {l : List EX} {s : ScT} {f : Int} {a y z : EX}
theorem ev_lo (h : f < 1) : (EX.mk o b t l).ev s f = .error 83 := by rw [EX.ev, if_pos h]
theorem ev_0 (h : ¬ f < 1) : (EX.mk 0 b t l).ev s f = .ok (.nil, f - 1) := by rw [EX.ev, if_neg h]; rfl
theorem ev_1 (h : ¬ f < 1) : (EX.mk 1 b t l).ev s f = .ok (.tr false, f - 1) := by rw [EX.ev, if_neg h]; rfl
theorem ev_2 (h : ¬ f < 1) : (EX.mk 2 b t l).ev s f = .ok (.tr true, f - 1) := by rw [EX.ev, if_neg h]; rfl
theorem ev_3 (h : ¬ f < 1) : (EX.mk 3 b t l).ev s f = .ok (.nu b, f - 1) := by rw [EX.ev, if_neg h]; rfl
theorem ev_4 (h : ¬ f < 1) : (EX.mk 4 b t l).ev s f = .ok (.tx t, f - 1) := by rw [EX.ev, if_neg h]; rfl
theorem ev_5 (h : ¬ f < 1) : (EX.mk 5 b t l).ev s f = .ok (s.st, f - 1) := by rw [EX.ev, if_neg h]; rfl
theorem ev_6 (h : ¬ f < 1) : (EX.mk 6 b t l).ev s f = .ok (s.ev, f - 1) := by rw [EX.ev, if_neg h]; rfl
theorem ev_7 (h : ¬ f < 1) : (EX.mk 7 b t l).ev s f = .ok (s.it, f - 1) := by rw [EX.ev, if_neg h]; rfl
theorem ev_18 (h : ¬ f < 1) : (EX.mk 18 b t l).ev s f = EX.evAO false l s (f - 1) := by rw [EX.ev, if_neg h]; rfl
theorem ev_19 (h : ¬ f < 1) : (EX.mk 19 b t l).ev s f = EX.evAO true l s (f - 1) := by rw [EX.ev, if_neg h]; rfl
theorem ev_21 (h : ¬ f < 1) : (EX.mk 21 b t l).ev s f = EX.evIf l s (f - 1) := by rw [EX.ev, if_neg h]; rfl
theorem ev_over (ho : o = 27 ∨ o = 28 ∨ o = 29) (h : ¬ f < 1) : (EX.mk o b t l).ev s f = EX.evOv o l s (f - 1) := by
  rcases ho with rfl | rfl | rfl <;> (rw [EX.ev, if_neg h]; rfl)
def plE (o : Int) (t : Str) (r : ER (List V)) : ER V := match r with
  | .error e => .error e
  | .ok (vs, f1) => match plainE o t vs with
    | .error e => .error e
    | .ok v => .ok (v, f1)
theorem ev_pl (h : ¬ f < 1) (hn : o = 23 ∨ (8 ≤ o ∧ o ≠ 18 ∧ o ≠ 19 ∧ o ≠ 21 ∧ o ≠ 27 ∧ o ≠ 28 ∧ o ≠ 29)) : (EX.mk o b t l).ev s f = plE o t (EX.evs l s (f - 1)) := by
  rw [EX.ev, if_neg h, if_neg (by omega), if_neg (by omega), if_neg (by omega), if_neg (by omega), if_neg (by omega), if_neg (by omega), if_neg (by omega), if_neg (by omega), if_neg (by omega), if_neg (by omega), if_neg (by omega), if_neg (by omega)]
  rfl
theorem plE_ok {vs : List V} {v : V} {r : ER (List V)} {f1 : Int} (h : r = .ok (vs, f1)) (h2 : plainE o t vs = .ok v) : plE o t r = .ok (v, f1) := by subst h; simp only [plE, h2]
theorem plE_er {vs : List V} {r : ER (List V)} {f1 c : Int} (h : r = .ok (vs, f1)) (h2 : plainE o t vs = .error c) : plE o t r = .error c := by subst h; simp only [plE, h2]
theorem plE_no {r : ER (List V)} {c : Int} (h : r = .error c) : plE o t r = .error c := by subst h; rfl
theorem ao_er {k : Bool} {c : Int} (h : truE (a.ev s f) = .error c) : EX.evAO k [a, y] s f = .error c := by unfold EX.evAO; rw [h]
theorem ao_1 {k : Bool} {f1 : Int} (h : truE (a.ev s f) = .ok (k, f1)) : EX.evAO k [a, y] s f = .ok (.tr k, f1) := by unfold EX.evAO; rw [h]; simp
theorem ao_2 {k : Bool} {f1 c : Int} (h : truE (a.ev s f) = .ok (!k, f1)) (h2 : truE (y.ev s f1) = .error c) : EX.evAO k [a, y] s f = .error c := by unfold EX.evAO; rw [h]; cases k <;> simp [h2]
theorem ao_3 {k b2 : Bool} {f1 f2 : Int} (h : truE (a.ev s f) = .ok (!k, f1)) (h2 : truE (y.ev s f1) = .ok (b2, f2)) : EX.evAO k [a, y] s f = .ok (.tr b2, f2) := by unfold EX.evAO; rw [h]; cases k <;> simp [h2]
theorem if_er {c : Int} (h : truE (a.ev s f) = .error c) : EX.evIf [a, y, z] s f = .error c := by unfold EX.evIf; rw [h]
theorem if_t {f1 : Int} (h : truE (a.ev s f) = .ok (true, f1)) : EX.evIf [a, y, z] s f = y.ev s f1 := by unfold EX.evIf; rw [h]; rfl
theorem if_f {f1 : Int} (h : truE (a.ev s f) = .ok (false, f1)) : EX.evIf [a, y, z] s f = z.ev s f1 := by unfold EX.evIf; rw [h]; rfl
def joinV (vs : List V) : ER (List V) → ER (List V)
  | .error e => .error e
  | .ok (r, f) => .ok (vs ++ r, f)
theorem joinV_nil (r : ER (List V)) : r = joinV [] r := by cases r <;> rfl
theorem evs_bad {j : Nat} {vs : List V} {c : Int} (hj : j < l.length) (h : l[j].ev s f = .error c) : joinV vs (EX.evs (l.drop j) s f) = .error c := by
  rw [List.drop_eq_getElem_cons hj, EX.evs, h]; rfl
theorem evs_step {j : Nat} {vs : List V} {v : V} {f1 : Int} (hj : j < l.length) (h : l[j].ev s f = .ok (v, f1)) : joinV vs (EX.evs (l.drop j) s f) = joinV (vs ++ [v]) (EX.evs (l.drop (j + 1)) s f1) := by
  rw [List.drop_eq_getElem_cons hj, EX.evs, h]
  simp only []
  cases EX.evs (l.drop (j + 1)) s f1 with
  | error c => rfl
  | ok p => simp [joinV]
theorem evs_done {vs : List V} : joinV vs (EX.evs [] s f) = .ok (vs, f) := by rw [EX.evs]; simp [joinV]
theorem fillOne {e : ETy} {base z : List AV} (hz : z.length = e.sz) (hb : base.length = e.sz := by rfl) : fillA (fun i => some (i * e.sz, e.sz)) base [(0, z)] = some [z].flatten := by
  have h1 : splice base 0 z = z := splice_all (by rw [hz, hb])
  have h2 : Nat.ble e.sz e.sz = true := Nat.ble_eq_true_of_le (Nat.le_refl _)
  simp [fillA, hz, hb, h1, h2]
theorem allOne {e : ETy} {z : List AV} (hz : z.length = e.sz) : (([z] : List (List AV)).all fun x => Nat.beq x.length e.sz) = true := by simp [hz]
theorem css_snoc (vs : List V) (v : V) : V.css false vs ++ [v.cs false] = V.css false (vs ++ [v]) := by
  induction vs with
  | nil => rfl
  | cons x r ih => rw [List.cons_append, V.css, V.css, ← ih]; rfl
end
end Go.Proofs.YtjhonjdhanlbkaaGreat.J

/- Walks: the machine reckons an expression. -/
namespace Go.Proofs.YtjhonjdhanlbkaaGreat.J
open Go Go.RowKit
set_option maxRecDepth 10000
set_option maxHeartbeats 4000000
theorem meval_n  : ∀ (n : Nat), EvIH n := by
  intro n
  induction n with
  | zero => intro e s f b fr hw hf hs h0 hn; exact absurd hn (by have := EX.sz_pos e; omega)
  | succ n ih =>
    intro e s f b fr hw hf hs h0 hn
    obtain ⟨o, bb, t, l⟩ := e
    obtain ⟨ho0, ho30, hl8, hoa⟩ := EX.ok_args hf.part
    obtain ⟨-, -, htr, hl56, hwl⟩ := hw.inv
    have hfl : ∀ x ∈ l, x.Fine := fun x hx => hf.kid hx
    have hsz : ∀ x ∈ l, x.sz ≤ n := fun x hx => by
      obtain ⟨i, hi, rfl⟩ := List.getElem_of_mem hx
      exact EX.sz_get hn hi
    refine AC.of_J Tryz.func33 rfl Tryz.ntmps33 rfl fun w0 A0 => ?_
    refine Zs (JL.box_agg (.tmp rfl) rfl fun b3 => JL.alloc z29 rfl rfl fun b4 => Zn (Zs (Zq rfl (QW.move (.tmp rfl)) (Zq rfl (QW.nil_ptr (.tmp rfl)) (Zq rfl (QW.field_ptr fo69_1 (.tmp rfl) rfl) (Zq rfl (QW.load_box1 2 ty3 (.tmp rfl) rfl mb_fuel) (Zq rfl (QW.gtr (.tmp rfl) .const) ?_)))))))
    refine JL.callPF [] gofn45 rfl Lent.nil (fun _ => (.cons (.tmp rfl) (.cons .const .nil))) (nd_ok _ _) (.inl rfl) (fun k13 x13 o13 h13 => ?_) (fun k13 => ?_)
    rotate_left
    · skip
      refine thenQ.p ?_
      exact ⟨_, selP [.k, .k, .k] _, _, rfl, rfl, sel_perm [.k, .k, .k] _, EvR.er (c := 83) (ev_lo (by simp at k13; omega)) (by decide)⟩
    obtain ⟨rfl, rfl⟩ := h13
    refine Zn (Zs ?_)
    have hlo : ¬ f < 1 := by (simp at k13; omega)
    have h1 : okF (f - 1) := ⟨by omega, by have := h0.2; omega⟩
    refine Zq rfl (QW.move (.tmp rfl)) (Zq rfl (QW.nil_ptr (.tmp rfl)) (Zq rfl (QW.field_ptr fo69_1 (.tmp rfl) rfl) (Zq rfl (QW.load_box1 2 ty3 (.tmp rfl) rfl mb_fuel) (Zq rfl (QW.sub (.tmp rfl) .const (w64 (by have := h0.2; omega))) ?_))))
    refine Zq rfl (QW.nil_ptr (.tmp rfl)) (Zq rfl (QW.field_ptr fo69_1 (.tmp rfl) rfl) (JL.store_box 2 ty3 (.tmp rfl) rfl (.tmp rfl) rfl rfl (by rw [mb_len]; rfl) mb_setf rfl ?_))
    refine Zn (J.seq (Zs (Zq rfl (QW.field_ptr fo34_0 (.tmp rfl) rfl) (Zq rfl (QW.load_box1 1 ty3 (.tmp rfl) rfl rfl) (Zn (J.block (Zs (Zq rfl (QW.eql (.tmp rfl) .const) (Zq rfl (QW.assign (.tmp rfl)) ?_)))))))))
    refine Zn ?_
    refine J.cond (.tmp rfl) (fun c1 => ?_) (fun c1 => ?_)
    · skip
      obtain rfl : o = 0 := by simpa using c1
      exact Zs (Zq rfl (QW.build (idx := []) pl29 z29 rfl .nil rfl rfl rfl rfl) (JL.store_boxF 0 ty29 (.tmp rfl) rfl (.tmp rfl) rfl rfl rfl rfl (Zn (J.ret (blkQ.r (thenQ.r (Zr [.k, .k, .p] (RetEv.one rfl (REv.cell 0 ty29 rfl rfl rfl rfl (.aggL (.cons lr (.cons lr (.cons lr (.cons (.nil false false _) (.cons (.nil false false _) .nil)))))))) rfl (EvR.ok (v := .nil) (ev_0 hlo)))))))))
    have n0 : ¬ o = 0 := by simpa using c1
    refine J.seq (Zs (Zq rfl (QW.eql (.tmp rfl) .const) (Zq rfl (QW.assign (.tmp rfl)) (Zn ?_))))
    refine J.cond (.tmp rfl) (fun c2 => ?_) (fun c2 => ?_)
    · skip
      obtain rfl : o = 1 := by simpa using c2
      refine Zk ?_
      refine J.cond (.tmp rfl) (fun c3 => ?_) (fun c3 => absurd c3 (by rw [c2]; decide))
      exact Zs (Zq rfl (QW.field_ptr fo34_0 (.tmp rfl) rfl) (Zq rfl (QW.load_box1 1 ty3 (.tmp rfl) rfl rfl) (Zq rfl (QW.eql (.tmp rfl) .const) (Zq rfl (QW.call gofn46 (.cons (.tmp rfl) .nil) (boolean_ok _)) (JL.store_boxF 0 ty29 (.tmp rfl) rfl (.tmp rfl) rfl rfl rfl rfl (Zn (J.ret (blkQ.r (thenQ.r (Zr [.k, .k, .p] (RetEv.one rfl (REv.cell 0 ty29 rfl rfl rfl rfl lr)) rfl (EvR.ok (v := .tr false) (ev_1 hlo))))))))))))
    have n1 : ¬ o = 1 := by simpa using c2
    refine J.region_lit (Zq rfl (QW.eql (.tmp rfl) .const) (Zq rfl (QW.assign (.tmp rfl)) (Zn ?_)))
    refine J.cond (.tmp rfl) (fun c3 => ?_) (fun c3 => ?_)
    · skip
      obtain rfl : o = 2 := by simpa using c3
      exact Zs (Zq rfl (QW.field_ptr fo34_0 (.tmp rfl) rfl) (Zq rfl (QW.load_box1 1 ty3 (.tmp rfl) rfl rfl) (Zq rfl (QW.eql (.tmp rfl) .const) (Zq rfl (QW.call gofn46 (.cons (.tmp rfl) .nil) (boolean_ok _)) (JL.store_boxF 0 ty29 (.tmp rfl) rfl (.tmp rfl) rfl rfl rfl rfl (Zn (J.ret (blkQ.r (thenQ.r (Zr [.k, .k, .p] (RetEv.one rfl (REv.cell 0 ty29 rfl rfl rfl rfl lr)) rfl (EvR.ok (v := .tr true) (ev_2 hlo))))))))))))
    have n2 : ¬ o = 2 := by simpa using c3
    refine Zs (Zq rfl (QW.eql (.tmp rfl) .const) (Zq rfl (QW.assign (.tmp rfl)) (Zn ?_)))
    refine J.cond (.tmp rfl) (fun c4 => ?_) (fun c4 => ?_)
    · skip
      obtain rfl : o = 3 := by simpa using c4
      exact Zs (Zq rfl (QW.field_ptr fo34_1 (.tmp rfl) rfl) (Zq rfl (QW.load_box1 1 ty22 (.tmp rfl) rfl rfl) (Zq rfl (QW.call gofn47 (.cons (.tmp rfl) .nil) (nof_ok _)) (JL.store_boxF 0 ty29 (.tmp rfl) rfl (.tmp rfl) rfl rfl rfl rfl (Zn (J.ret (blkQ.r (thenQ.r (Zr [.k, .k, .p] (RetEv.one rfl (REv.cell 0 ty29 rfl rfl rfl rfl lr)) rfl (EvR.ok (v := .nu bb) (ev_3 hlo)))))))))))
    have n3 : ¬ o = 3 := by simpa using c4
    refine Zs (Zq rfl (QW.eql (.tmp rfl) .const) (Zq rfl (QW.assign (.tmp rfl)) (Zn ?_)))
    refine J.cond (.tmp rfl) (fun c5 => ?_) (fun c5 => ?_)
    · skip
      obtain rfl : o = 4 := by simpa using c5
      exact Zs (Zq rfl (QW.field_ptr fo34_2 (.tmp rfl) rfl) (Zq rfl (QW.load_box1 1 ty9 (.tmp rfl) rfl rfl) (Zq rfl (QW.build (idx := [0, 2]) pl29 z29 rfl (.cons .const (.cons (.tmp rfl) .nil)) rfl rfl rfl rfl) (JL.store_boxF 0 ty29 (.tmp rfl) rfl (.tmp rfl) rfl rfl rfl rfl (Zn (J.ret (blkQ.r (thenQ.r (Zr [.k, .k, .p] (RetEv.one rfl (REv.cell 0 ty29 rfl rfl rfl rfl (.aggL (.cons lr (.cons lr (.cons lr (.cons (.nil false false _) (.cons (.nil false false _) .nil)))))))) rfl (EvR.ok (v := .tx t) (ev_4 hlo)))))))))))
    have n4 : ¬ o = 4 := by simpa using c5
    refine Zs (Zq rfl (QW.eql (.tmp rfl) .const) (Zq rfl (QW.assign (.tmp rfl)) (Zn ?_)))
    refine J.cond (.tmp rfl) (fun c6 => ?_) (fun c6 => ?_)
    · skip
      obtain rfl : o = 5 := by simpa using c6
      refine Zs (Zq rfl (QW.move (.tmp rfl)) (Zq rfl (QW.nil_ptr (.tmp rfl)) (Zq rfl (QW.field_ptr fo69_0 (.tmp rfl) rfl) (Zq rfl (QW.field_ptr fo36_0 (.tmp rfl) rfl) (Zq rfl (QW.load_box 2 ty29 (.tmp rfl) rfl (mb_at 0) vl) (JL.store_boxF 0 ty29 (.tmp rfl) rfl (.tmp rfl) rfl vl rfl rfl (Zn (J.ret (blkQ.r ?_)))))))))
      exact thenQ.r (Zr [.k, .k, .p] (RetEv.one rfl (REv.cell 0 ty29 rfl rfl (take_at vl rfl) vl lr)) rfl (EvR.ok (v := s.st) (ev_5 hlo)))
    have n5 : ¬ o = 5 := by simpa using c6
    refine Zs (Zq rfl (QW.eql (.tmp rfl) .const) (Zq rfl (QW.assign (.tmp rfl)) (Zn ?_)))
    refine J.cond (.tmp rfl) (fun c7 => ?_) (fun c7 => ?_)
    · skip
      obtain rfl : o = 6 := by simpa using c7
      refine Zs (Zq rfl (QW.move (.tmp rfl)) (Zq rfl (QW.nil_ptr (.tmp rfl)) (Zq rfl (QW.field_ptr fo69_0 (.tmp rfl) rfl) (Zq rfl (QW.field_ptr fo36_1 (.tmp rfl) rfl) (Zq rfl (QW.load_box 2 ty29 (.tmp rfl) rfl (mb_at 1) vl) (JL.store_boxF 0 ty29 (.tmp rfl) rfl (.tmp rfl) rfl vl rfl rfl (Zn (J.ret (blkQ.r ?_)))))))))
      exact thenQ.r (Zr [.k, .k, .p] (RetEv.one rfl (REv.cell 0 ty29 rfl rfl (take_at vl rfl) vl lr)) rfl (EvR.ok (v := s.ev) (ev_6 hlo)))
    have n6 : ¬ o = 6 := by simpa using c7
    refine Zs (Zq rfl (QW.eql (.tmp rfl) .const) (Zq rfl (QW.assign (.tmp rfl)) (Zn ?_)))
    refine J.cond (.tmp rfl) (fun c8 => ?_) (fun c8 => ?_)
    · skip
      obtain rfl : o = 7 := by simpa using c8
      refine Zs (Zq rfl (QW.move (.tmp rfl)) (Zq rfl (QW.nil_ptr (.tmp rfl)) (Zq rfl (QW.field_ptr fo69_0 (.tmp rfl) rfl) (Zq rfl (QW.field_ptr fo36_2 (.tmp rfl) rfl) (Zq rfl (QW.load_box 2 ty29 (.tmp rfl) rfl (mb_at 2) vl) (JL.store_boxF 0 ty29 (.tmp rfl) rfl (.tmp rfl) rfl vl rfl rfl (Zn (J.ret (blkQ.r ?_)))))))))
      exact thenQ.r (Zr [.k, .k, .p] (RetEv.one rfl (REv.cell 0 ty29 rfl rfl (take_at vl rfl) vl lr)) rfl (EvR.ok (v := s.it) (ev_7 hlo)))
    have n7 : ¬ o = 7 := by simpa using c8
    refine Zs (Zq rfl (QW.eql (.tmp rfl) .const) (Zq rfl (QW.assign (.tmp rfl)) (Zn ?_)))
    refine J.cond (.tmp rfl) (fun c9 => ?_) (fun c9 => ?_)
    · skip
      obtain rfl : o = 18 := by simpa using c9
      obtain ⟨a, y, rfl⟩ := etwo (l := l) (by omega)
      refine Zs (Zq rfl (QW.move (.tmp rfl)) (Zq rfl (QW.field_ptr fo34_3 (.tmp rfl) rfl) (Zq rfl (QW.load_box1 1 ty32 (.tmp rfl) rfl rfl) (Zq rfl (QW.index_sl sl32 ty34 rfl (.tmp rfl) .const rfl (by rfl)) ?_))))
      refine Zq rfl (QW.load_ref ty34 (.tmp rfl) (take_at0 xl rfl) xl) ?_
      refine JL.callPF [.k, .k, .p] gofn48 rfl Lent.nil (fun _ => (.cons (.tmp rfl) (.cons (.tmp rfl) .nil))) (mtruth_ok (e := a) (f := f - 1) ih Xc.self (hwl _ (by simp)) (hfl _ (by simp)) hs h1 (hsz _ (by simp))) (.inl rfl) (fun k71 x71 o71 h71 => ?_) (fun k71 => ?_)
      rotate_left
      · skip
        refine thenQ.p (blkQ.p (thenQ.p ?_))
        exact ⟨_, selP [.k, .k] _, _, rfl, rfl, sel_perm [.k, .k] _, EvR.er ((ev_18 hlo).trans (ao_er (er_of k71))) k71⟩
      obtain ⟨q71, f71, hq71, rfl, rfl⟩ := h71
      have h2 : okF f71 := tr_okF (hwl _ (by simp)) (hfl _ (by simp)) hs h1 hq71
      refine Zq rfl (QW.move (.tmp rfl)) ?_
      by_cases hs_q71 : q71 = false
      · subst hs_q71
        refine JL.gskip rfl rfl rfl rfl (JL.gskip rfl rfl rfl rfl (JL.gskip rfl rfl rfl rfl (JL.gskip rfl rfl rfl rfl (JL.gskip rfl rfl rfl rfl (JL.gskip rfl rfl rfl rfl (Zq rfl (QW.pick_andF (.tmp rfl)) (Zq rfl (QW.call gofn46 (.cons (.tmp rfl) .nil) (boolean_ok _)) (JL.store_boxF 0 ty29 (.tmp rfl) rfl (.tmp rfl) rfl rfl rfl rfl (Zn ?_)))))))))
        exact J.ret (blkQ.r (thenQ.r (Zr [.k, .k, .p] (RetEv.one rfl (REv.cell 0 ty29 rfl rfl rfl rfl lr)) rfl (EvR.ok (v := .tr false) ((ev_18 hlo).trans (ao_1 hq71))))))
      obtain rfl : q71 = true := by simpa using hs_q71
      refine JL.ungd rfl rfl rfl (Zq rfl (QW.move (.tmp rfl)) (JL.ungd rfl rfl rfl (Zq rfl (QW.field_ptr fo34_3 (.tmp rfl) rfl) (JL.ungd rfl rfl rfl (Zq rfl (QW.load_box1 1 ty32 (.tmp rfl) rfl rfl) (JL.ungd rfl rfl rfl (Zq rfl (QW.index_sl sl32 ty34 rfl (.tmp rfl) .const rfl (by rfl)) ?_)))))))
      refine JL.ungd rfl rfl rfl (Zq rfl (QW.load_ref ty34 (.tmp rfl) (take_at0 xl rfl) xl) (JL.ungd rfl rfl rfl ?_))
      refine JL.callPF [.k, .k, .p] gofn48 rfl Lent.nil (fun _ => (.cons (.tmp rfl) (.cons (.tmp rfl) .nil))) (mtruth_ok (e := y) (f := f71) ih Xc.self (hwl _ (by simp)) (hfl _ (by simp)) hs h2 (hsz _ (by simp))) (.inl rfl) (fun k78 x78 o78 h78 => ?_) (fun k78 => ?_)
      rotate_left
      · skip
        refine thenQ.p (blkQ.p (thenQ.p ?_))
        exact ⟨_, selP [.k, .k] _, _, rfl, rfl, sel_perm [.k, .k] _, EvR.er ((ev_18 hlo).trans (ao_2 (k := false) hq71 (er_of k78))) k78⟩
      obtain ⟨q78, f78, hq78, rfl, rfl⟩ := h78
      exact Zq rfl (QW.pick_andT (.tmp rfl) (.tmp rfl)) (Zq rfl (QW.call gofn46 (.cons (.tmp rfl) .nil) (boolean_ok _)) (JL.store_boxF 0 ty29 (.tmp rfl) rfl (.tmp rfl) rfl rfl rfl rfl (Zn (J.ret (blkQ.r (thenQ.r (Zr [.k, .k, .p] (RetEv.one rfl (REv.cell 0 ty29 rfl rfl rfl rfl lr)) rfl (EvR.ok (v := .tr q78) ((ev_18 hlo).trans (ao_3 (k := false) hq71 hq78))))))))))
    have n18 : ¬ o = 18 := by simpa using c9
    refine Zs (Zq rfl (QW.eql (.tmp rfl) .const) (Zq rfl (QW.assign (.tmp rfl)) (Zn ?_)))
    refine J.cond (.tmp rfl) (fun c10 => ?_) (fun c10 => ?_)
    · skip
      obtain rfl : o = 19 := by simpa using c10
      obtain ⟨a, y, rfl⟩ := etwo (l := l) (by omega)
      refine Zs (Zq rfl (QW.move (.tmp rfl)) (Zq rfl (QW.field_ptr fo34_3 (.tmp rfl) rfl) (Zq rfl (QW.load_box1 1 ty32 (.tmp rfl) rfl rfl) (Zq rfl (QW.index_sl sl32 ty34 rfl (.tmp rfl) .const rfl (by rfl)) ?_))))
      refine Zq rfl (QW.load_ref ty34 (.tmp rfl) (take_at0 xl rfl) xl) ?_
      refine JL.callPF [.k, .k, .p] gofn48 rfl Lent.nil (fun _ => (.cons (.tmp rfl) (.cons (.tmp rfl) .nil))) (mtruth_ok (e := a) (f := f - 1) ih Xc.self (hwl _ (by simp)) (hfl _ (by simp)) hs h1 (hsz _ (by simp))) (.inl rfl) (fun k88 x88 o88 h88 => ?_) (fun k88 => ?_)
      rotate_left
      · skip
        refine thenQ.p (blkQ.p (thenQ.p ?_))
        exact ⟨_, selP [.k, .k] _, _, rfl, rfl, sel_perm [.k, .k] _, EvR.er ((ev_19 hlo).trans (ao_er (er_of k88))) k88⟩
      obtain ⟨q88, f88, hq88, rfl, rfl⟩ := h88
      have h2 : okF f88 := tr_okF (hwl _ (by simp)) (hfl _ (by simp)) hs h1 hq88
      refine Zq rfl (QW.move (.tmp rfl)) ?_
      by_cases hs_q88 : q88 = true
      · subst hs_q88
        refine JL.gskip rfl rfl rfl rfl (JL.gskip rfl rfl rfl rfl (JL.gskip rfl rfl rfl rfl (JL.gskip rfl rfl rfl rfl (JL.gskip rfl rfl rfl rfl (JL.gskip rfl rfl rfl rfl (Zq rfl (QW.pick_orT (.tmp rfl)) (Zq rfl (QW.call gofn46 (.cons (.tmp rfl) .nil) (boolean_ok _)) (JL.store_boxF 0 ty29 (.tmp rfl) rfl (.tmp rfl) rfl rfl rfl rfl (Zn ?_)))))))))
        exact J.ret (blkQ.r (thenQ.r (Zr [.k, .k, .p] (RetEv.one rfl (REv.cell 0 ty29 rfl rfl rfl rfl lr)) rfl (EvR.ok (v := .tr true) ((ev_19 hlo).trans (ao_1 hq88))))))
      obtain rfl : q88 = false := by simpa using hs_q88
      refine JL.ungd rfl rfl rfl (Zq rfl (QW.move (.tmp rfl)) (JL.ungd rfl rfl rfl (Zq rfl (QW.field_ptr fo34_3 (.tmp rfl) rfl) (JL.ungd rfl rfl rfl (Zq rfl (QW.load_box1 1 ty32 (.tmp rfl) rfl rfl) (JL.ungd rfl rfl rfl (Zq rfl (QW.index_sl sl32 ty34 rfl (.tmp rfl) .const rfl (by rfl)) ?_)))))))
      refine JL.ungd rfl rfl rfl (Zq rfl (QW.load_ref ty34 (.tmp rfl) (take_at0 xl rfl) xl) (JL.ungd rfl rfl rfl ?_))
      refine JL.callPF [.k, .k, .p] gofn48 rfl Lent.nil (fun _ => (.cons (.tmp rfl) (.cons (.tmp rfl) .nil))) (mtruth_ok (e := y) (f := f88) ih Xc.self (hwl _ (by simp)) (hfl _ (by simp)) hs h2 (hsz _ (by simp))) (.inl rfl) (fun k95 x95 o95 h95 => ?_) (fun k95 => ?_)
      rotate_left
      · skip
        refine thenQ.p (blkQ.p (thenQ.p ?_))
        exact ⟨_, selP [.k, .k] _, _, rfl, rfl, sel_perm [.k, .k] _, EvR.er ((ev_19 hlo).trans (ao_2 (k := true) hq88 (er_of k95))) k95⟩
      obtain ⟨q95, f95, hq95, rfl, rfl⟩ := h95
      exact Zq rfl (QW.pick_orF (.tmp rfl) (.tmp rfl)) (Zq rfl (QW.call gofn46 (.cons (.tmp rfl) .nil) (boolean_ok _)) (JL.store_boxF 0 ty29 (.tmp rfl) rfl (.tmp rfl) rfl rfl rfl rfl (Zn (J.ret (blkQ.r (thenQ.r (Zr [.k, .k, .p] (RetEv.one rfl (REv.cell 0 ty29 rfl rfl rfl rfl lr)) rfl (EvR.ok (v := .tr q95) ((ev_19 hlo).trans (ao_3 (k := true) hq88 hq95))))))))))
    have n19 : ¬ o = 19 := by simpa using c10
    refine Zs (Zq rfl (QW.eql (.tmp rfl) .const) (Zq rfl (QW.assign (.tmp rfl)) (Zn ?_)))
    refine J.cond (.tmp rfl) (fun c11 => ?_) (fun c11 => ?_)
    · skip
      obtain rfl : o = 21 := by simpa using c11
      obtain ⟨a, y, z, rfl⟩ := ethree (l := l) (by omega)
      refine J.seq (Zs (Zq rfl (QW.move (.tmp rfl)) (Zq rfl (QW.field_ptr fo34_3 (.tmp rfl) rfl) (Zq rfl (QW.load_box1 1 ty32 (.tmp rfl) rfl rfl) (Zq rfl (QW.index_sl sl32 ty34 rfl (.tmp rfl) .const rfl (by rfl)) ?_)))))
      refine Zq rfl (QW.load_ref ty34 (.tmp rfl) (take_at0 xl rfl) xl) ?_
      refine JL.callPF [.k, .k, .p] gofn48 rfl Lent.nil (fun _ => (.cons (.tmp rfl) (.cons (.tmp rfl) .nil))) (mtruth_ok (e := a) (f := f - 1) ih Xc.self (hwl _ (by simp)) (hfl _ (by simp)) hs h1 (hsz _ (by simp))) (.inl rfl) (fun k105 x105 o105 h105 => ?_) (fun k105 => ?_)
      rotate_left
      · skip
        refine thenQ.p (thenQ.p (blkQ.p (thenQ.p ?_)))
        exact ⟨_, selP [.k, .k] _, _, rfl, rfl, sel_perm [.k, .k] _, EvR.er ((ev_21 hlo).trans (if_er (er_of k105))) k105⟩
      obtain ⟨q105, f105, hq105, rfl, rfl⟩ := h105
      refine Zn ?_
      refine J.cond (.tmp rfl) (fun c12 => ?_) (fun c12 => ?_)
      · skip
        obtain rfl : q105 = true := c12
        have h2 : okF f105 := tr_okF (hwl _ (by simp)) (hfl _ (by simp)) hs h1 hq105
        refine Zs (Zq rfl (QW.move (.tmp rfl)) (Zq rfl (QW.field_ptr fo34_3 (.tmp rfl) rfl) (Zq rfl (QW.load_box1 1 ty32 (.tmp rfl) rfl rfl) (Zq rfl (QW.index_sl sl32 ty34 rfl (.tmp rfl) .const rfl (by rfl)) ?_))))
        refine Zq rfl (QW.load_ref ty34 (.tmp rfl) (take_at0 xl rfl) xl) ?_
        refine JL.callPF [.k, .k, .p] gofn33 rfl Lent.nil (fun _ => (.cons (.tmp rfl) (.cons (.tmp rfl) .nil))) (ih y s f105 b fr (hwl _ (by simp)) (hfl _ (by simp)) hs h2 (hsz _ (by simp))) (.inl rfl) (fun k111 x111 o111 h111 => ?_) (fun k111 => ?_)
        rotate_left
        · skip
          refine thenQ.p (thenQ.p (blkQ.p (thenQ.p ?_)))
          exact ⟨_, selP [.k, .k] _, _, rfl, rfl, sel_perm [.k, .k] _, EvR.er ((ev_21 hlo).trans ((if_t hq105).trans (er_of k111))) k111⟩
        obtain ⟨v111, f111, hv111, rfl, rfl⟩ := h111
        exact JL.store_boxF 0 ty29 (.tmp rfl) rfl (.tmp rfl) rfl vl rfl rfl (Zn (J.ret (thenQ.r (blkQ.r (thenQ.r (Zr [.k, .k, .p] (RetEv.one rfl (REv.cell 0 ty29 rfl rfl (take_at vl rfl) vl lr)) rfl (EvR.ok ((ev_21 hlo).trans ((if_t hq105).trans hv111)))))))))
      obtain rfl : q105 = false := c12
      have h2 : okF f105 := tr_okF (hwl _ (by simp)) (hfl _ (by simp)) hs h1 hq105
      refine Zk (Zs (Zq rfl (QW.move (.tmp rfl)) (Zq rfl (QW.field_ptr fo34_3 (.tmp rfl) rfl) (Zq rfl (QW.load_box1 1 ty32 (.tmp rfl) rfl rfl) (Zq rfl (QW.index_sl sl32 ty34 rfl (.tmp rfl) .const rfl (by rfl)) ?_)))))
      refine Zq rfl (QW.load_ref ty34 (.tmp rfl) (take_at0 xl rfl) xl) ?_
      refine JL.callPF [.k, .k, .p] gofn33 rfl Lent.nil (fun _ => (.cons (.tmp rfl) (.cons (.tmp rfl) .nil))) (ih z s f105 b fr (hwl _ (by simp)) (hfl _ (by simp)) hs h2 (hsz _ (by simp))) (.inl rfl) (fun k117 x117 o117 h117 => ?_) (fun k117 => ?_)
      rotate_left
      · skip
        refine thenQ.p (blkQ.p (thenQ.p ?_))
        exact ⟨_, selP [.k, .k] _, _, rfl, rfl, sel_perm [.k, .k] _, EvR.er ((ev_21 hlo).trans ((if_f hq105).trans (er_of k117))) k117⟩
      obtain ⟨v117, f117, hv117, rfl, rfl⟩ := h117
      exact JL.store_boxF 0 ty29 (.tmp rfl) rfl (.tmp rfl) rfl vl rfl rfl (Zn (J.ret (blkQ.r (thenQ.r (Zr [.k, .k, .p] (RetEv.one rfl (REv.cell 0 ty29 rfl rfl (take_at vl rfl) vl lr)) rfl (EvR.ok ((ev_21 hlo).trans ((if_f hq105).trans hv117))))))))
    have n21 : ¬ o = 21 := by simpa using c11
    refine J.seq (Zs (Zq rfl (QW.eql (.tmp rfl) .const) (Zq rfl (QW.assign (.tmp rfl)) (Zn ?_))))
    refine J.cond (.tmp rfl) (fun c12 => ?_) (fun c12 => ?_)
    · skip
      have ho : o = 27 ∨ o = 28 ∨ o = 29 := by (have hh := c12; simp at hh; omega)
      obtain ⟨a, y, rfl⟩ := etwo (l := l) (by omega)
      refine Zk ?_
      refine J.cond (.tmp rfl) (fun c13 => ?_) (fun c13 => absurd c13 (by rw [c12]; decide))
      refine Zs (Zq rfl (QW.move (.tmp rfl)) (Zq rfl (QW.load_box 1 ty34 (.tmp rfl) rfl rfl rfl) ?_))
      refine JL.callPF [.k, .k, .p] gofn49 rfl Lent.nil (fun _ => (.cons (.tmp rfl) (.cons (.tmp rfl) .nil))) (mover_ok (f := f - 1) ih Xc.mk ho (hwl _ (by simp)) (hwl _ (by simp)) (hfl _ (by simp)) (hfl _ (by simp)) (hsz _ (by simp)) (hsz _ (by simp)) hs h1) (.inl rfl) (fun k124 x124 o124 h124 => ?_) (fun k124 => ?_)
      rotate_left
      · skip
        refine thenQ.p (blkQ.p (thenQ.p ?_))
        exact ⟨_, selP [.k, .k] _, _, rfl, rfl, sel_perm [.k, .k] _, EvR.er ((ev_over ho hlo).trans (er_of k124)) k124⟩
      obtain ⟨v124, f124, hv124, rfl, rfl⟩ := h124
      exact JL.store_boxF 0 ty29 (.tmp rfl) rfl (.tmp rfl) rfl vl rfl rfl (Zn (J.ret (blkQ.r (thenQ.r (Zr [.k, .k, .p] (RetEv.one rfl (REv.cell 0 ty29 rfl rfl (take_at vl rfl) vl lr)) rfl (EvR.ok ((ev_over ho hlo).trans hv124)))))))
    have n27 : ¬ o = 27 := by simpa using c12
    refine Zs (Zq rfl (QW.eql (.tmp rfl) .const) (Zq rfl (QW.assign (.tmp rfl)) (Zn ?_)))
    refine J.cond (.tmp rfl) (fun c13 => ?_) (fun c13 => ?_)
    · skip
      have ho : o = 27 ∨ o = 28 ∨ o = 29 := by (have hh := c13; simp at hh; omega)
      obtain ⟨a, y, rfl⟩ := etwo (l := l) (by omega)
      refine Zk ?_
      refine J.cond (.tmp rfl) (fun c14 => ?_) (fun c14 => absurd c14 (by rw [c13]; decide))
      refine Zs (Zq rfl (QW.move (.tmp rfl)) (Zq rfl (QW.load_box 1 ty34 (.tmp rfl) rfl rfl rfl) ?_))
      refine JL.callPF [.k, .k, .p] gofn49 rfl Lent.nil (fun _ => (.cons (.tmp rfl) (.cons (.tmp rfl) .nil))) (mover_ok (f := f - 1) ih Xc.mk ho (hwl _ (by simp)) (hwl _ (by simp)) (hfl _ (by simp)) (hfl _ (by simp)) (hsz _ (by simp)) (hsz _ (by simp)) hs h1) (.inl rfl) (fun k124 x124 o124 h124 => ?_) (fun k124 => ?_)
      rotate_left
      · skip
        refine thenQ.p (blkQ.p (thenQ.p ?_))
        exact ⟨_, selP [.k, .k] _, _, rfl, rfl, sel_perm [.k, .k] _, EvR.er ((ev_over ho hlo).trans (er_of k124)) k124⟩
      obtain ⟨v124, f124, hv124, rfl, rfl⟩ := h124
      exact JL.store_boxF 0 ty29 (.tmp rfl) rfl (.tmp rfl) rfl vl rfl rfl (Zn (J.ret (blkQ.r (thenQ.r (Zr [.k, .k, .p] (RetEv.one rfl (REv.cell 0 ty29 rfl rfl (take_at vl rfl) vl lr)) rfl (EvR.ok ((ev_over ho hlo).trans hv124)))))))
    have n28 : ¬ o = 28 := by simpa using c13
    refine J.region_lit (Zq rfl (QW.eql (.tmp rfl) .const) (Zq rfl (QW.assign (.tmp rfl)) (Zn ?_)))
    refine J.cond (.tmp rfl) (fun c14 => ?_) (fun c14 => ?_)
    · skip
      have ho : o = 27 ∨ o = 28 ∨ o = 29 := by (have hh := c14; simp at hh; omega)
      obtain ⟨a, y, rfl⟩ := etwo (l := l) (by omega)
      refine Zs (Zq rfl (QW.move (.tmp rfl)) (Zq rfl (QW.load_box 1 ty34 (.tmp rfl) rfl rfl rfl) ?_))
      refine JL.callPF [.k, .k, .p] gofn49 rfl Lent.nil (fun _ => (.cons (.tmp rfl) (.cons (.tmp rfl) .nil))) (mover_ok (f := f - 1) ih Xc.mk ho (hwl _ (by simp)) (hwl _ (by simp)) (hfl _ (by simp)) (hfl _ (by simp)) (hsz _ (by simp)) (hsz _ (by simp)) hs h1) (.inl rfl) (fun k124 x124 o124 h124 => ?_) (fun k124 => ?_)
      rotate_left
      · skip
        refine thenQ.p (blkQ.p (thenQ.p ?_))
        exact ⟨_, selP [.k, .k] _, _, rfl, rfl, sel_perm [.k, .k] _, EvR.er ((ev_over ho hlo).trans (er_of k124)) k124⟩
      obtain ⟨v124, f124, hv124, rfl, rfl⟩ := h124
      exact JL.store_boxF 0 ty29 (.tmp rfl) rfl (.tmp rfl) rfl vl rfl rfl (Zn (J.ret (blkQ.r (thenQ.r (Zr [.k, .k, .p] (RetEv.one rfl (REv.cell 0 ty29 rfl rfl (take_at vl rfl) vl lr)) rfl (EvR.ok ((ev_over ho hlo).trans hv124)))))))
    have n29 : ¬ o = 29 := by simpa using c14
    have hpl : o = 23 ∨ (8 ≤ o ∧ o ≠ 18 ∧ o ≠ 19 ∧ o ≠ 21 ∧ o ≠ 27 ∧ o ≠ 28 ∧ o ≠ 29) := by omega
    refine J.skip (blkQ.n (thenQ.n (Zs (Zq rfl (QW.assign .const) (Zn (J.seq (Zs (Zq rfl (QW.field_ptr fo34_3 (.tmp rfl) rfl) (Zq rfl (QW.load_box1 1 ty32 (.tmp rfl) rfl rfl) ?_)))))))))
    refine Zq rfl (QW.len_slE sl32 (.tmp rfl) (EX.css_length _ _)) (Zq rfl (QW.move .const) (Zn (J.block (J.reown (Reown.nilArrE eV _) (J.loopK (ι := Nat × Value × List V × Int) [0, 3, 4, 126, 127] (fun ⟨j, v, vs, g1⟩ => [(128, .c (.int .i64 (j : Int))), (5, .c v)]) (fun ⟨j, v, vs, g1⟩ oo => List.set (List.set oo 3 (.arr v eV (V.css false vs))) 2 (mb b s g1)) (fun ⟨j, v, vs, g1⟩ => j ≤ l.length ∧ vs.length = j ∧ (∀ x ∈ vs, x.good) ∧ okF g1 ∧ EX.evs l s (f - 1) = joinV vs (EX.evs (l.drop j) s g1)) (fun ⟨j, v, vs, g1⟩ => l.length - j) ⟨0, .slice none 0 0, [], f - 1⟩ (⟨Nat.zero_le _, rfl, (fun _ h => by cases h), h1, joinV_nil _⟩) (Wk.re (.cons rfl lr (.cons rfl lr (.cons rfl lr (.cons rfl lr (.cons rfl lr (.cons rfl lr (.cons rfl lr .nil))))))) (Reown.refl _) (fun _ h => by first | exact h | simp [h])) ?_)))))
    intro ⟨j, v, vs, g1⟩ ⟨hj, hvl, hvg, hg1, hevs⟩
    refine J.conv (by (try simp only [nl, stepsO, valO, nthO, curO, mrg, AV.cellsOf, splice_zero, splice_succ, Nat.reduceAdd]); rfl) ?_
    refine Zs (Zq rfl (QW.lss (.tmp rfl) (.tmp rfl)) (Zn (J.seq ?_)))
    refine J.cond (.tmp rfl) (fun c15 => ?_) (fun c15 => ?_)
    · skip
      have hlt : j < l.length := by simpa [EX.css_length] using c15
      refine Zk (J.seq (J.block (Zs (Zq rfl (QW.index_sl sl32 ty34 rfl (.tmp rfl) (.tmp rfl) rfl (by exact EX.css_getE _ hlt)) ?_))))
      refine Zq rfl (QW.load_ref ty34 (.tmp rfl) (take_at0 xl rfl) xl) (JL.alloc z34 rfl rfl fun b7 => JL.store_boxF 0 ty34 (.tmp rfl) rfl (.tmp rfl) rfl xl rfl rfl (Zn (J.region_lit (Zq rfl (QW.move (.tmp rfl)) (Zq rfl (QW.move (.tmp rfl)) (Zq rfl (QW.load_box 0 ty34 (.tmp rfl) rfl (take_at xl rfl) xl) ?_))))))
      refine JL.callPF [.k, .k, .k, .p] gofn33 rfl Lent.nil (fun _ => (.cons (.tmp rfl) (.cons (.tmp rfl) .nil))) (ih l[j] s g1 b fr (hwl _ (List.getElem_mem hlt)) (hfl _ (List.getElem_mem hlt)) hs hg1 (hsz _ (List.getElem_mem hlt))) (.inl rfl) (fun k135 x135 o135 h135 => ?_) (fun k135 => ?_)
      rotate_left
      · skip
        refine blkQ.p (thenQ.p (thenQ.p (blkQ.p (thenQ.p ?_))))
        exact ⟨_, selP [.k, .k, .k, .k] _, _, rfl, rfl, sel_perm [.k, .k, .k, .k] _, EvR.er ((ev_pl hlo hpl).trans (plE_no (hevs.trans (evs_bad hlt (er_of k135))))) k135⟩
      obtain ⟨v135, f135, hv135, rfl, rfl⟩ := h135
      refine Zq rfl (QW.buildSlice (idx := [0]) (xs := [v135.cs false]) sl27 el29 z29 rfl (.cons (.tmp rfl) .nil) rfl rfl rfl rfl rfl (by exact fillOne vl) rfl (allOne vl) rfl) ?_
      refine JL.append 4 sl27 el29 rfl (.tmp rfl) rfl (srcA_sl sl27 (.tmp rfl)) (by rw [V.css_length]; show (_ + 1) * 80 ≤ _; unfold reach; omega) rfl fun v137 => ?_
      refine Zq rfl (QW.assign (.tmp rfl)) (JL.nil (blkQ.n (thenQ.n ?_)))
      rw [css_snoc]
      refine J.region_lit (Zq rfl (QW.add (.tmp rfl) .const (w64 (by omega))) (Zq rfl (QW.move (.tmp rfl)) (Zn ?_)))
      rw [evs_step hlt hv135] at hevs
      obtain ⟨hgv, hfv⟩ := ev_okF (hwl _ (List.getElem_mem hlt)) (hfl _ (List.getElem_mem hlt)) hs hg1 hv135
      exact ⟨⟨j + 1, v137, vs ++ [v135], f135⟩, ⟨hlt, by simp [hvl], fun z hz => (List.mem_append.1 hz).elim (hvg z) (fun h => by rw [List.mem_singleton.1 h]; exact hgv), hfv, hevs⟩, by show l.length - (j + 1) < l.length - j; omega, Wk.re (.cons rfl lr (.cons rfl lr (.cons rfl lr (.cons rfl lr (.cons rfl lr (.cons rfl lr (.cons rfl lr .nil))))))) (Reown.dropN 1 _ rfl) (fun _ h => by first | exact h | simp [h])⟩
    have hge : l.length ≤ j := by simpa [EX.css_length] using c15
    refine J.exit (thenQ.x (thenQ.x (blkQ.hit (thenQ.n (J.seq ?_)))))
    have hlj : j = l.length := by omega
    rw [List.drop_of_length_le hge, evs_done] at hevs
    refine J.closeArr 3 rfl (by rw [V.css_length]; show _ * 80 ≤ _; unfold reach; omega) rfl (fun z hz => by simp only [mb, fps_cons, fps_nil, Own.fp, List.append_nil, List.mem_singleton] at hz; subst hz; simp [mb, fps_cons, Own.fp]) ?_
    refine J.region_lit (Zq rfl (QW.load_box 1 ty34 (.tmp rfl) rfl rfl rfl) (Zq rfl (QW.move (.tmp rfl)) ?_))
    refine JL.callPF [] gofn50 rfl Lent.nil (fun _ => (.cons (.tmp rfl) (.cons (Ev.le (.tmp rfl) (.fact (by simp) (.slL (fr := true) (clip := false) (fun h => by cases h) rfl (V.css_sz false _) (.refl _)))) .nil))) (plain_ok Xc.mk htr hvg ⟨by omega, by omega⟩) (.inl rfl) (fun k141 x141 o141 h141 => ?_) (fun k141 => ?_)
    rotate_left
    · skip
      refine thenQ.p ?_
      exact ⟨_, selP [.k, .k, .k] _, _, rfl, rfl, sel_perm [.k, .k, .k] _, EvR.er ((ev_pl hlo hpl).trans (plE_er hevs (er_of k141))) k141⟩
    obtain ⟨v141, hv141, rfl, rfl⟩ := h141
    exact JL.store_boxF 0 ty29 (.tmp rfl) rfl (.tmp rfl) rfl vl rfl rfl (Zn (J.ret (Zr [.k, .k, .p] (RetEv.one rfl (REv.cell 0 ty29 rfl rfl (take_at vl rfl) vl lr)) rfl (EvR.ok ((ev_pl hlo hpl).trans (plE_ok hevs hv141))))))
end Go.Proofs.YtjhonjdhanlbkaaGreat.J

/- Walks: expressions, the small functions. -/
namespace Go.Proofs.YtjhonjdhanlbkaaGreat.J
open Go Go.RowKit
set_option maxRecDepth 10000
set_option maxHeartbeats 4000000
theorem within_ok (n l h : Int) : Fn Tryz.prog 91 [.c (.int .i64 n), .c (.int .i64 l), .c (.int .i64 h)] (.c (.bool (decide (l ≤ n) && decide (n ≤ h)))) := by
  refine AC.of_J Tryz.func91 rfl Tryz.ntmps91 rfl fun w0 A0 => ?_
  refine Zs (Zq rfl (QW.assign .const) (Zn (Zs (Zq rfl (QW.move (.tmp rfl)) (Zq rfl (QW.move (.tmp rfl)) (Zq rfl (QW.geq (.tmp rfl) (.tmp rfl)) (Zq rfl (QW.move (.tmp rfl)) (Zg rfl (fun hg => (QW.move (.tmp rfl))) (Zg rfl (fun hg => (QW.move (.tmp rfl))) ?_)))))))))
  refine Zg rfl (fun hg => (QW.leq (.when rfl hg) (.when rfl hg))) (Zq rfl (QW.pick_and (.tmp rfl) (.tmp rfl)) (Zq rfl (QW.assign (.tmp rfl)) (Zn (J.ret ?_))))
  exact ⟨_, [], _, RetEv.one rfl (REv.tmp rfl lr), rfl, List.Perm.refl _, rfl, rfl⟩
theorem need_ok (ok : Bool) (e : Int) : AC Tryz.prog 64 [] [.c (.bool ok), .c (.int .i64 e)] (PanR (ok = true) (errV e) fun x o => x = .tup [] ∧ o = []) := by
  refine AC.of_J Tryz.func64 rfl Tryz.ntmps64 rfl fun w0 A0 => ?_
  refine Zs (Zq rfl (QW.move (.tmp rfl)) (Zq rfl (QW.not (.tmp rfl)) (Zn ?_)))
  refine J.cond (.tmp rfl) (fun c1 => ?_) (fun c1 => ?_)
  · skip
    have hok : ok = false := by simpa using c1
    refine J.region_lit (Zq rfl (QW.move (.tmp rfl)) (Zq rfl (QW.mkIface ⟨_, Tryz.underlying38, by intro ms h; cases h⟩ (.tmp rfl)) ?_))
    refine JL.panic (.tmp rfl) ?_
    exact ⟨_, selP [] _, _, rfl, rfl, sel_perm [] _, PanR.pan (by simp [hok])⟩
  have hok : ok = true := by simpa using c1
  exact J.skip (Zr [] (RetEv.none rfl ) rfl (PanR.ret hok ⟨rfl, rfl⟩))
def shLo (o : Int) : Int := if argsN o = -1 then 0 else if argsN o = -2 then 2 else argsN o
def shHi (o : Int) : Int := if argsN o = -1 then 8 else if argsN o = -2 then 2 else argsN o
theorem shape_eq {o : Int} {a b c d : Int} {k : Bool} (h : a = shLo o ∧ b = shHi o ∧ c = textLo o ∧ d = textHi o ∧ k = decide (argsN o ≠ -2)) :
    Res.ret (.tup [.agg [.c (.int .i64 a), .c (.int .i64 b), .c (.int .i64 c), .c (.int .i64 d)], .c (.bool k)]) = Res.ret (.tup [.agg [.c (.int .i64 (shLo o)), .c (.int .i64 (shHi o)), .c (.int .i64 (textLo o)), .c (.int .i64 (textHi o))], .c (.bool (decide (argsN o ≠ -2)))]) := by
  obtain ⟨rfl, rfl, rfl, rfl, rfl⟩ := h; rfl
theorem shapeOf_ok (o : Int) : Fn Tryz.prog 90 [.c (.int .i64 o)] (.tup [.agg [.c (.int .i64 (shLo o)), .c (.int .i64 (shHi o)), .c (.int .i64 (textLo o)), .c (.int .i64 (textHi o))], .c (.bool (decide (argsN o ≠ -2)))]) := by
  refine AC.of_J Tryz.func90 rfl Tryz.ntmps90 rfl fun w0 A0 => ?_
  refine Zs (JL.alloc z126 rfl rfl fun b2 => Zq rfl (QW.assign .const) (Zn (J.seq (Zs (Zq rfl (QW.move (.tmp rfl)) (Zn (J.block (J.seq ?_))))))))
  refine Zs (Zq rfl (QW.eql (.tmp rfl) .const) (Zq rfl (QW.assign (.tmp rfl)) (Zn ?_)))
  refine J.cond (.tmp rfl) (fun c1 => ?_) (fun c1 => ?_)
  · try (exfalso; simp at *; omega; done)
    all_goals
      refine Zk ?_
      refine J.cond (.tmp rfl) (fun c2 => ?_) (fun c2 => absurd c2 (by (rw [c1]; decide)))
      refine Zs (Zq rfl (QW.build (idx := []) pl126 z126 rfl .nil rfl rfl rfl rfl) (JL.store_boxF 0 ty126 (.tmp rfl) rfl (.tmp rfl) rfl rfl rfl rfl (Zq rfl (QW.assign .const) (Zn (J.ret (blkQ.r (thenQ.r ?_)))))))
      exact ⟨_, [], _, RetEv.two rfl (REv.cell 0 ty126 rfl rfl rfl rfl lr) (REv.tmp rfl lr), rfl, List.Perm.refl _, shape_eq (by simp at *; unfold shLo shHi textLo textHi argsN; (repeat' split) <;> (try simp) <;> omega), rfl⟩
  try (exfalso; simp at *; omega; done)
  all_goals
    refine Zs (Zq rfl (QW.eql (.tmp rfl) .const) (Zq rfl (QW.assign (.tmp rfl)) (Zn ?_)))
    refine J.cond (.tmp rfl) (fun c2 => ?_) (fun c2 => ?_)
    · try (exfalso; simp at *; omega; done)
      all_goals
        refine Zk ?_
        refine J.cond (.tmp rfl) (fun c3 => ?_) (fun c3 => absurd c3 (by (rw [c2]; decide)))
        refine Zs (Zq rfl (QW.build (idx := []) pl126 z126 rfl .nil rfl rfl rfl rfl) (JL.store_boxF 0 ty126 (.tmp rfl) rfl (.tmp rfl) rfl rfl rfl rfl (Zq rfl (QW.assign .const) (Zn (J.ret (blkQ.r (thenQ.r ?_)))))))
        exact ⟨_, [], _, RetEv.two rfl (REv.cell 0 ty126 rfl rfl rfl rfl lr) (REv.tmp rfl lr), rfl, List.Perm.refl _, shape_eq (by simp at *; unfold shLo shHi textLo textHi argsN; (repeat' split) <;> (try simp) <;> omega), rfl⟩
    try (exfalso; simp at *; omega; done)
    all_goals
      refine Zs (Zq rfl (QW.eql (.tmp rfl) .const) (Zq rfl (QW.assign (.tmp rfl)) (Zn ?_)))
      refine J.cond (.tmp rfl) (fun c3 => ?_) (fun c3 => ?_)
      · try (exfalso; simp at *; omega; done)
        all_goals
          refine Zk ?_
          refine J.cond (.tmp rfl) (fun c4 => ?_) (fun c4 => absurd c4 (by (rw [c3]; decide)))
          refine Zs (Zq rfl (QW.build (idx := []) pl126 z126 rfl .nil rfl rfl rfl rfl) (JL.store_boxF 0 ty126 (.tmp rfl) rfl (.tmp rfl) rfl rfl rfl rfl (Zq rfl (QW.assign .const) (Zn (J.ret (blkQ.r (thenQ.r ?_)))))))
          exact ⟨_, [], _, RetEv.two rfl (REv.cell 0 ty126 rfl rfl rfl rfl lr) (REv.tmp rfl lr), rfl, List.Perm.refl _, shape_eq (by simp at *; unfold shLo shHi textLo textHi argsN; (repeat' split) <;> (try simp) <;> omega), rfl⟩
      try (exfalso; simp at *; omega; done)
      all_goals
        refine Zs (Zq rfl (QW.eql (.tmp rfl) .const) (Zq rfl (QW.assign (.tmp rfl)) (Zn ?_)))
        refine J.cond (.tmp rfl) (fun c4 => ?_) (fun c4 => ?_)
        · try (exfalso; simp at *; omega; done)
          all_goals
            refine Zk ?_
            refine J.cond (.tmp rfl) (fun c5 => ?_) (fun c5 => absurd c5 (by (rw [c4]; decide)))
            refine Zs (Zq rfl (QW.build (idx := []) pl126 z126 rfl .nil rfl rfl rfl rfl) (JL.store_boxF 0 ty126 (.tmp rfl) rfl (.tmp rfl) rfl rfl rfl rfl (Zq rfl (QW.assign .const) (Zn (J.ret (blkQ.r (thenQ.r ?_)))))))
            exact ⟨_, [], _, RetEv.two rfl (REv.cell 0 ty126 rfl rfl rfl rfl lr) (REv.tmp rfl lr), rfl, List.Perm.refl _, shape_eq (by simp at *; unfold shLo shHi textLo textHi argsN; (repeat' split) <;> (try simp) <;> omega), rfl⟩
        try (exfalso; simp at *; omega; done)
        all_goals
          refine Zs (Zq rfl (QW.eql (.tmp rfl) .const) (Zq rfl (QW.assign (.tmp rfl)) (Zn ?_)))
          refine J.cond (.tmp rfl) (fun c5 => ?_) (fun c5 => ?_)
          · try (exfalso; simp at *; omega; done)
            all_goals
              refine Zk ?_
              refine J.cond (.tmp rfl) (fun c6 => ?_) (fun c6 => absurd c6 (by (rw [c5]; decide)))
              refine Zs (Zq rfl (QW.build (idx := []) pl126 z126 rfl .nil rfl rfl rfl rfl) (JL.store_boxF 0 ty126 (.tmp rfl) rfl (.tmp rfl) rfl rfl rfl rfl (Zq rfl (QW.assign .const) (Zn (J.ret (blkQ.r (thenQ.r ?_)))))))
              exact ⟨_, [], _, RetEv.two rfl (REv.cell 0 ty126 rfl rfl rfl rfl lr) (REv.tmp rfl lr), rfl, List.Perm.refl _, shape_eq (by simp at *; unfold shLo shHi textLo textHi argsN; (repeat' split) <;> (try simp) <;> omega), rfl⟩
          try (exfalso; simp at *; omega; done)
          all_goals
            refine Zs (Zq rfl (QW.eql (.tmp rfl) .const) (Zq rfl (QW.assign (.tmp rfl)) (Zn ?_)))
            refine J.cond (.tmp rfl) (fun c6 => ?_) (fun c6 => ?_)
            · try (exfalso; simp at *; omega; done)
              all_goals
                refine Zk ?_
                refine J.cond (.tmp rfl) (fun c7 => ?_) (fun c7 => absurd c7 (by (rw [c6]; decide)))
                refine Zs (Zq rfl (QW.build (idx := []) pl126 z126 rfl .nil rfl rfl rfl rfl) (JL.store_boxF 0 ty126 (.tmp rfl) rfl (.tmp rfl) rfl rfl rfl rfl (Zq rfl (QW.assign .const) (Zn (J.ret (blkQ.r (thenQ.r ?_)))))))
                exact ⟨_, [], _, RetEv.two rfl (REv.cell 0 ty126 rfl rfl rfl rfl lr) (REv.tmp rfl lr), rfl, List.Perm.refl _, shape_eq (by simp at *; unfold shLo shHi textLo textHi argsN; (repeat' split) <;> (try simp) <;> omega), rfl⟩
            try (exfalso; simp at *; omega; done)
            all_goals
              refine J.region_lit (Zq rfl (QW.eql (.tmp rfl) .const) (Zq rfl (QW.assign (.tmp rfl)) (Zn ?_)))
              refine J.cond (.tmp rfl) (fun c7 => ?_) (fun c7 => ?_)
              · try (exfalso; simp at *; omega; done)
                all_goals
                  refine Zs (Zq rfl (QW.build (idx := []) pl126 z126 rfl .nil rfl rfl rfl rfl) (JL.store_boxF 0 ty126 (.tmp rfl) rfl (.tmp rfl) rfl rfl rfl rfl (Zq rfl (QW.assign .const) (Zn (J.ret (blkQ.r (thenQ.r ?_)))))))
                  exact ⟨_, [], _, RetEv.two rfl (REv.cell 0 ty126 rfl rfl rfl rfl lr) (REv.tmp rfl lr), rfl, List.Perm.refl _, shape_eq (by simp at *; unfold shLo shHi textLo textHi argsN; (repeat' split) <;> (try simp) <;> omega), rfl⟩
              try (exfalso; simp at *; omega; done)
              all_goals
                refine Zs (Zq rfl (QW.eql (.tmp rfl) .const) (Zq rfl (QW.assign (.tmp rfl)) (Zn ?_)))
                refine J.cond (.tmp rfl) (fun c8 => ?_) (fun c8 => ?_)
                · try (exfalso; simp at *; omega; done)
                  all_goals
                    refine Zs (Zq rfl (QW.build (idx := [3]) pl126 z126 rfl (.cons .const .nil) rfl rfl rfl rfl) (JL.store_boxF 0 ty126 (.tmp rfl) rfl (.tmp rfl) rfl rfl rfl rfl (Zq rfl (QW.assign .const) (Zn (J.ret (blkQ.r (thenQ.r ?_)))))))
                    exact ⟨_, [], _, RetEv.two rfl (REv.cell 0 ty126 rfl rfl rfl rfl lr) (REv.tmp rfl lr), rfl, List.Perm.refl _, shape_eq (by simp at *; unfold shLo shHi textLo textHi argsN; (repeat' split) <;> (try simp) <;> omega), rfl⟩
                try (exfalso; simp at *; omega; done)
                all_goals
                  refine Zs (Zq rfl (QW.eql (.tmp rfl) .const) (Zq rfl (QW.assign (.tmp rfl)) (Zn ?_)))
                  refine J.cond (.tmp rfl) (fun c9 => ?_) (fun c9 => ?_)
                  · try (exfalso; simp at *; omega; done)
                    all_goals
                      refine Zs (Zq rfl (QW.build (idx := [0, 1, 2, 3]) pl126 z126 rfl (.cons .const (.cons .const (.cons .const (.cons .const .nil)))) rfl rfl rfl rfl) (JL.store_boxF 0 ty126 (.tmp rfl) rfl (.tmp rfl) rfl rfl rfl rfl (Zq rfl (QW.assign .const) (Zn (J.ret (blkQ.r (thenQ.r ?_)))))))
                      exact ⟨_, [], _, RetEv.two rfl (REv.cell 0 ty126 rfl rfl rfl rfl lr) (REv.tmp rfl lr), rfl, List.Perm.refl _, shape_eq (by simp at *; unfold shLo shHi textLo textHi argsN; (repeat' split) <;> (try simp) <;> omega), rfl⟩
                  try (exfalso; simp at *; omega; done)
                  all_goals
                    refine Zs (Zq rfl (QW.eql (.tmp rfl) .const) (Zq rfl (QW.assign (.tmp rfl)) (Zn ?_)))
                    refine J.cond (.tmp rfl) (fun c10 => ?_) (fun c10 => ?_)
                    · try (exfalso; simp at *; omega; done)
                      all_goals
                        refine Zs (Zq rfl (QW.build (idx := [0, 1, 2, 3]) pl126 z126 rfl (.cons .const (.cons .const (.cons .const (.cons .const .nil)))) rfl rfl rfl rfl) (JL.store_boxF 0 ty126 (.tmp rfl) rfl (.tmp rfl) rfl rfl rfl rfl (Zq rfl (QW.assign .const) (Zn (J.ret (blkQ.r (thenQ.r ?_)))))))
                        exact ⟨_, [], _, RetEv.two rfl (REv.cell 0 ty126 rfl rfl rfl rfl lr) (REv.tmp rfl lr), rfl, List.Perm.refl _, shape_eq (by simp at *; unfold shLo shHi textLo textHi argsN; (repeat' split) <;> (try simp) <;> omega), rfl⟩
                    try (exfalso; simp at *; omega; done)
                    all_goals
                      refine J.seq (Zs (Zq rfl (QW.eql (.tmp rfl) .const) (Zq rfl (QW.assign (.tmp rfl)) (Zn ?_))))
                      refine J.cond (.tmp rfl) (fun c11 => ?_) (fun c11 => ?_)
                      · try (exfalso; simp at *; omega; done)
                        all_goals
                          refine Zk ?_
                          refine J.cond (.tmp rfl) (fun c12 => ?_) (fun c12 => absurd c12 (by (rw [c11]; decide)))
                          refine Zs (Zq rfl (QW.build (idx := [0, 1]) pl126 z126 rfl (.cons .const (.cons .const .nil)) rfl rfl rfl rfl) (JL.store_boxF 0 ty126 (.tmp rfl) rfl (.tmp rfl) rfl rfl rfl rfl (Zq rfl (QW.assign .const) (Zn (J.ret (blkQ.r (thenQ.r ?_)))))))
                          exact ⟨_, [], _, RetEv.two rfl (REv.cell 0 ty126 rfl rfl rfl rfl lr) (REv.tmp rfl lr), rfl, List.Perm.refl _, shape_eq (by simp at *; unfold shLo shHi textLo textHi argsN; (repeat' split) <;> (try simp) <;> omega), rfl⟩
                      try (exfalso; simp at *; omega; done)
                      all_goals
                        refine Zs (Zq rfl (QW.eql (.tmp rfl) .const) (Zq rfl (QW.assign (.tmp rfl)) (Zn ?_)))
                        refine J.cond (.tmp rfl) (fun c12 => ?_) (fun c12 => ?_)
                        · try (exfalso; simp at *; omega; done)
                          all_goals
                            refine Zk ?_
                            refine J.cond (.tmp rfl) (fun c13 => ?_) (fun c13 => absurd c13 (by (rw [c12]; decide)))
                            refine Zs (Zq rfl (QW.build (idx := [0, 1]) pl126 z126 rfl (.cons .const (.cons .const .nil)) rfl rfl rfl rfl) (JL.store_boxF 0 ty126 (.tmp rfl) rfl (.tmp rfl) rfl rfl rfl rfl (Zq rfl (QW.assign .const) (Zn (J.ret (blkQ.r (thenQ.r ?_)))))))
                            exact ⟨_, [], _, RetEv.two rfl (REv.cell 0 ty126 rfl rfl rfl rfl lr) (REv.tmp rfl lr), rfl, List.Perm.refl _, shape_eq (by simp at *; unfold shLo shHi textLo textHi argsN; (repeat' split) <;> (try simp) <;> omega), rfl⟩
                        try (exfalso; simp at *; omega; done)
                        all_goals
                          refine Zs (Zq rfl (QW.eql (.tmp rfl) .const) (Zq rfl (QW.assign (.tmp rfl)) (Zn ?_)))
                          refine J.cond (.tmp rfl) (fun c13 => ?_) (fun c13 => ?_)
                          · try (exfalso; simp at *; omega; done)
                            all_goals
                              refine Zk ?_
                              refine J.cond (.tmp rfl) (fun c14 => ?_) (fun c14 => absurd c14 (by (rw [c13]; decide)))
                              refine Zs (Zq rfl (QW.build (idx := [0, 1]) pl126 z126 rfl (.cons .const (.cons .const .nil)) rfl rfl rfl rfl) (JL.store_boxF 0 ty126 (.tmp rfl) rfl (.tmp rfl) rfl rfl rfl rfl (Zq rfl (QW.assign .const) (Zn (J.ret (blkQ.r (thenQ.r ?_)))))))
                              exact ⟨_, [], _, RetEv.two rfl (REv.cell 0 ty126 rfl rfl rfl rfl lr) (REv.tmp rfl lr), rfl, List.Perm.refl _, shape_eq (by simp at *; unfold shLo shHi textLo textHi argsN; (repeat' split) <;> (try simp) <;> omega), rfl⟩
                          try (exfalso; simp at *; omega; done)
                          all_goals
                            refine J.region_lit (Zq rfl (QW.eql (.tmp rfl) .const) (Zq rfl (QW.assign (.tmp rfl)) (Zn ?_)))
                            refine J.cond (.tmp rfl) (fun c14 => ?_) (fun c14 => ?_)
                            · try (exfalso; simp at *; omega; done)
                              all_goals
                                refine Zs (Zq rfl (QW.build (idx := [0, 1]) pl126 z126 rfl (.cons .const (.cons .const .nil)) rfl rfl rfl rfl) (JL.store_boxF 0 ty126 (.tmp rfl) rfl (.tmp rfl) rfl rfl rfl rfl (Zq rfl (QW.assign .const) (Zn (J.ret (blkQ.r (thenQ.r ?_)))))))
                                exact ⟨_, [], _, RetEv.two rfl (REv.cell 0 ty126 rfl rfl rfl rfl lr) (REv.tmp rfl lr), rfl, List.Perm.refl _, shape_eq (by simp at *; unfold shLo shHi textLo textHi argsN; (repeat' split) <;> (try simp) <;> omega), rfl⟩
                            try (exfalso; simp at *; omega; done)
                            all_goals
                              refine Zs (Zq rfl (QW.eql (.tmp rfl) .const) (Zq rfl (QW.assign (.tmp rfl)) (Zn ?_)))
                              refine J.cond (.tmp rfl) (fun c15 => ?_) (fun c15 => ?_)
                              · try (exfalso; simp at *; omega; done)
                                all_goals
                                  refine Zs (Zq rfl (QW.build (idx := [0, 1]) pl126 z126 rfl (.cons .const (.cons .const .nil)) rfl rfl rfl rfl) (JL.store_boxF 0 ty126 (.tmp rfl) rfl (.tmp rfl) rfl rfl rfl rfl (Zq rfl (QW.assign .const) (Zn (J.ret (blkQ.r (thenQ.r ?_)))))))
                                  exact ⟨_, [], _, RetEv.two rfl (REv.cell 0 ty126 rfl rfl rfl rfl lr) (REv.tmp rfl lr), rfl, List.Perm.refl _, shape_eq (by simp at *; unfold shLo shHi textLo textHi argsN; (repeat' split) <;> (try simp) <;> omega), rfl⟩
                              try (exfalso; simp at *; omega; done)
                              all_goals
                                refine Zs (Zq rfl (QW.eql (.tmp rfl) .const) (Zq rfl (QW.assign (.tmp rfl)) (Zn ?_)))
                                refine J.cond (.tmp rfl) (fun c16 => ?_) (fun c16 => ?_)
                                · try (exfalso; simp at *; omega; done)
                                  all_goals
                                    refine Zs (Zq rfl (QW.build (idx := [1]) pl126 z126 rfl (.cons .const .nil) rfl rfl rfl rfl) (JL.store_boxF 0 ty126 (.tmp rfl) rfl (.tmp rfl) rfl rfl rfl rfl (Zq rfl (QW.assign .const) (Zn (J.ret (blkQ.r (thenQ.r ?_)))))))
                                    exact ⟨_, [], _, RetEv.two rfl (REv.cell 0 ty126 rfl rfl rfl rfl lr) (REv.tmp rfl lr), rfl, List.Perm.refl _, shape_eq (by simp at *; unfold shLo shHi textLo textHi argsN; (repeat' split) <;> (try simp) <;> omega), rfl⟩
                                try (exfalso; simp at *; omega; done)
                                all_goals
                                  refine J.skip (blkQ.n (thenQ.n (Zs (Zq rfl (QW.build (idx := [0, 1]) pl126 z126 rfl (.cons .const (.cons .const .nil)) rfl rfl rfl rfl) (Zq rfl (QW.move (.tmp rfl)) (Zq rfl (QW.gtr (.tmp rfl) .const) (Zq rfl (QW.move (.tmp rfl)) (Zg rfl (fun hg => (QW.move (.tmp rfl))) (Zg rfl (fun hg => (QW.leq (.when rfl hg) .const)) ?_)))))))))
                                  refine Zq rfl (QW.pick_and (.tmp rfl) (.tmp rfl)) (JL.store_boxF 0 ty126 (.tmp rfl) rfl (.tmp rfl) rfl rfl rfl rfl (Zq rfl (QW.assign (.tmp rfl)) (Zn (J.ret ?_))))
                                  exact ⟨_, [], _, RetEv.two rfl (REv.cell 0 ty126 rfl rfl rfl rfl lr) (REv.tmp rfl lr), rfl, List.Perm.refl _, shape_eq (by simp at *; unfold shLo shHi textLo textHi argsN; (repeat' split) <;> (try simp) <;> omega), rfl⟩
end Go.Proofs.YtjhonjdhanlbkaaGreat.J

/- Walks: expressions, one part. -/
namespace Go.Proofs.YtjhonjdhanlbkaaGreat.J
open Go Go.RowKit
set_option maxRecDepth 10000
set_option maxHeartbeats 4000000
theorem part_arith {q n lo hi tl : Int} {z : Bool} (hn : 0 ≤ n) (hq : q = -2 ∨ q = -1 ∨ (0 ≤ q ∧ q ≤ 3)) :
    ((decide (q ≠ -2) && z) && (decide ((if q = -1 then 0 else if q = -2 then 2 else q) ≤ n) && decide (n ≤ (if q = -1 then 8 else if q = -2 then 2 else q))) && (decide (lo ≤ tl) && decide (tl ≤ hi))) =
    (decide (q ≠ -2) && (q == -1 || (n == q)) && decide (n ≤ 8) && decide (lo ≤ tl) && decide (tl ≤ hi) && z) := by
  rw [Bool.eq_iff_iff]
  simp only [Bool.and_eq_true, Bool.or_eq_true, decide_eq_true_eq, beq_iff_eq]
  rcases hq with rfl | rfl | ⟨h4, h5⟩
  · simp
  · simp
    constructor
    · rintro ⟨⟨h6, h7, h7'⟩, h8, h9⟩; exact ⟨⟨⟨h7', h8⟩, h9⟩, h6⟩
    · rintro ⟨⟨⟨h6, h8⟩, h9⟩, h7⟩; exact ⟨⟨h7, by omega, h6⟩, h8, h9⟩
  · rw [if_neg (by omega), if_neg (by omega)]
    constructor
    · rintro ⟨⟨⟨h6, h7⟩, h8, h9⟩, h10, h11⟩; exact ⟨⟨⟨⟨⟨h6, .inr (by omega)⟩, by omega⟩, h10⟩, h11⟩, h7⟩
    · rintro ⟨⟨⟨⟨⟨h6, h12⟩, h13⟩, h10⟩, h11⟩, h7⟩
      have : n = q := h12.resolve_left (by omega)
      exact ⟨⟨⟨h6, h7⟩, by omega, by omega⟩, h10, h11⟩
theorem part_eq {o : Int} {b : Nat} {t : List UInt8} {l : List EX} {n : Int} (hn : n = (l.length : Int)) :
    ((decide (argsN o ≠ -2) && (((b : Int) == 0) || ((o == 3) && ((canonN b : Int) == (b : Int))))) && (decide (shLo o ≤ n) && decide (n ≤ shHi o)) && (decide (textLo o ≤ (t.length : Int)) && decide ((t.length : Int) ≤ textHi o))) = (EX.mk o b t l).ok := by
  subst hn
  have hz : canonN 0 = 0 := by decide
  have h1 : (((b : Int) == 0) || ((o == 3) && ((canonN b : Int) == (b : Int)))) = (if o = 3 then canonN b == b else b == 0) := by
    by_cases h3 : o = 3
    · subst h3
      rw [if_pos rfl, Bool.eq_iff_iff]
      simp
      constructor
      · rintro (h | h)
        · have : b = 0 := by omega
          rw [this, hz]
        · omega
      · intro h; right; rw [h]
    · rw [if_neg h3, Bool.eq_iff_iff]
      simp [h3]
  have ha : argsN o = -2 ∨ argsN o = -1 ∨ (0 ≤ argsN o ∧ argsN o ≤ 3) := by unfold argsN; (repeat' split) <;> omega
  rw [h1]
  exact part_arith (by omega) ha
theorem epart_ok {fr : Bool} {v : EX} {ys : List AV} (hv : Xc fr v ys) : Fn Tryz.prog 65 [.agg ys] (.c (.bool v.ok)) := by
  obtain ⟨o, b, t, l⟩ := v
  subst hv
  refine AC.of_J Tryz.func65 rfl Tryz.ntmps65 rfl fun w0 A0 => ?_
  refine Zs (JL.box_agg (.tmp rfl) rfl fun b1 => Zq rfl (QW.assign .const) (Zn (Zs (Zq rfl (QW.field_ptr fo34_0 (.tmp rfl) rfl) (Zq rfl (QW.load_box1 0 ty3 (.tmp rfl) rfl rfl) (Zq rfl (QW.call gofn90 (.cons (.tmp rfl) .nil) (shapeOf_ok _)) (Zq rfl (QW.move (.tmp rfl)) (Zq rfl (QW.extract (.tmp rfl) rfl) ?_))))))))
  refine Zq rfl (QW.extract (.tmp rfl) rfl) (JL.alloc z126 rfl rfl fun b3 => JL.store_boxF 0 ty126 (.tmp rfl) rfl (.tmp rfl) rfl rfl rfl rfl (Zq rfl (QW.assign (.tmp rfl)) (Zn (J.seq (J.region_tailK 13 mixed (by kernel_rfl) (by kernel_rfl) (by kernel_rfl) rfl ?_)))))
  refine .cons [] rfl rfl rfl (.q rfl (QW.field_ptr fo34_1 (.tmp rfl) rfl)) ?_
  refine .cons [12] rfl rfl rfl (.q rfl (QW.load_box1 1 ty22 (.tmp rfl) rfl rfl)) ?_
  refine .cons [13] rfl rfl rfl (.q rfl (QW.eql (.tmp rfl) .const)) ?_
  refine .cons [14] rfl rfl rfl (.q rfl (QW.move (.tmp rfl))) ?_
  refine .cons [15] rfl rfl rfl (.g rfl rfl rfl (fun hg => (QW.field_ptr fo34_0 (.tmp rfl) rfl))) ?_
  refine .cons [16, 15] rfl rfl rfl (.g rfl rfl rfl (fun hg => (QW.load_box1 1 ty3 (.when rfl hg) rfl rfl))) ?_
  refine .cons [17, 15] rfl rfl rfl (.g rfl rfl rfl (fun hg => (QW.eql (.when rfl hg) .const))) ?_
  refine .cons [18, 15] rfl rfl rfl (.g rfl rfl rfl (fun hg => (QW.move (.when rfl hg)))) ?_
  refine .cons [19] rfl rfl rfl (.gg rfl rfl rfl (fun hg => (QW.field_ptr fo34_1 (.tmp rfl) rfl))) ?_
  refine .cons [20, 19] rfl rfl rfl (.gg rfl rfl rfl (fun hg => (QW.load_box1 1 ty22 (.when rfl hg) rfl rfl))) ?_
  refine .cons [21, 19] rfl rfl rfl (.gg rfl rfl rfl (fun hg => (QW.call gofn87 (.cons (.when rfl hg) .nil) (canon_ok _)))) ?_
  refine .cons [19] rfl rfl rfl (.gg rfl rfl rfl (fun hg => (QW.field_ptr fo34_1 (.tmp rfl) rfl))) ?_
  refine .cons [23, 19] rfl rfl rfl (.gg rfl rfl rfl (fun hg => (QW.load_box1 1 ty22 (.when rfl hg) rfl rfl))) ?_
  refine .nil ?_
  refine JL.gg rfl rfl rfl rfl rfl (fun hg => (QW.eql (.when rfl hg) (.when rfl hg))) (Zg rfl (fun hg => (QW.pick_and2 hg (.when rfl hg) (.tmp rfl))) (Zq rfl (QW.pick_or (.tmp rfl) (.tmp rfl)) (Zq rfl (QW.assign (.tmp rfl)) (Zn (Zs (Zq rfl (QW.move (.tmp rfl)) (Zq rfl (QW.move (.tmp rfl)) (Zg rfl (fun hg => (QW.move (.tmp rfl))) (Zq rfl (QW.pick_and (.tmp rfl) (.tmp rfl)) ?_)))))))))
  refine Zq rfl (QW.move (.tmp rfl)) (Zg rfl (fun hg => (QW.field_ptr fo34_3 (.tmp rfl) rfl)) (Zg rfl (fun hg => (QW.load_box1 1 ty32 (.when rfl hg) rfl rfl)) (Zg rfl (fun hg => (QW.len_sl sl32 (.when rfl hg))) (Zg rfl (fun hg => (QW.field_ptr fo126_0 (.tmp rfl) rfl)) (Zg rfl (fun hg => (QW.load_box1 0 ty3 (.when rfl hg) rfl rfl)) (Zg rfl (fun hg => (QW.field_ptr fo126_1 (.tmp rfl) rfl)) (Zg rfl (fun hg => (QW.load_box1 0 ty3 (.when rfl hg) rfl rfl)) (Zg rfl (fun hg => (QW.call gofn91 (.cons (.when rfl hg) (.cons (.when rfl hg) (.cons (.when rfl hg) .nil))) (within_ok _ _ _))) (Zq rfl (QW.pick_and (.tmp rfl) (.tmp rfl)) ?_)))))))))
  refine Zq rfl (QW.move (.tmp rfl)) (Zg rfl (fun hg => (QW.field_ptr fo34_2 (.tmp rfl) rfl)) (Zg rfl (fun hg => (QW.load_box1 1 ty9 (.when rfl hg) rfl rfl)) (Zg rfl (fun hg => (QW.len_s st9 (.when rfl hg))) (Zg rfl (fun hg => (QW.field_ptr fo126_2 (.tmp rfl) rfl)) (Zg rfl (fun hg => (QW.load_box1 0 ty3 (.when rfl hg) rfl rfl)) (Zg rfl (fun hg => (QW.field_ptr fo126_3 (.tmp rfl) rfl)) (Zg rfl (fun hg => (QW.load_box1 0 ty3 (.when rfl hg) rfl rfl)) (Zg rfl (fun hg => (QW.call gofn91 (.cons (.when rfl hg) (.cons (.when rfl hg) (.cons (.when rfl hg) .nil))) (within_ok _ _ _))) (Zq rfl (QW.pick_and (.tmp rfl) (.tmp rfl)) ?_)))))))))
  exact Zq rfl (QW.assign (.tmp rfl)) (Zn (J.ret (Zr [.k, .k] (RetEv.one rfl (REv.tmp rfl lr)) rfl ⟨by rw [← part_eq (n := ((EX.css fr l).length : Int)) (by rw [EX.css_length])], rfl⟩)))
end Go.Proofs.YtjhonjdhanlbkaaGreat.J

/- Walks: expressions, the page's own small functions. -/
namespace Go.Proofs.YtjhonjdhanlbkaaGreat.J
open Go Go.RowKit
set_option maxRecDepth 10000
set_option maxHeartbeats 4000000
theorem rargs_ok (o : Int) : Fn Tryz.prog 60 [.c (.int .i64 o)] (.c (.int .i64 (argsN o))) := by
  refine AC.of_J Tryz.func60 rfl Tryz.ntmps60 rfl fun w0 A0 => ?_
  refine Zs (Zq rfl (QW.assign .const) (Zn (J.seq (J.block (Zs (Zq rfl (QW.move (.tmp rfl)) (Zq rfl (QW.lss (.tmp rfl) .const) (Zq rfl (QW.move (.tmp rfl)) (Zg rfl (fun hg => (QW.move (.tmp rfl))) ?_)))))))))
  refine Zg rfl (fun hg => (QW.geq (.when rfl hg) .const)) (Zq rfl (QW.pick_or (.tmp rfl) (.tmp rfl)) (Zq rfl (QW.assign (.tmp rfl)) (Zn ?_)))
  refine J.cond (.tmp rfl) (fun c1 => ?_) (fun c1 => ?_)
  · try (exfalso; simp at *; omega; done)
    all_goals
      exact Zs (Zq rfl (QW.assign .const) (Zn (J.ret (blkQ.r (thenQ.r (Zr [] (RetEv.one rfl (REv.tmp rfl lr)) rfl ⟨by congr 3; simp at *; unfold argsN; (repeat' split) <;> omega, rfl⟩))))))
  try (exfalso; simp at *; omega; done)
  all_goals
    refine Zs (Zq rfl (QW.move (.tmp rfl)) (Zq rfl (QW.leq (.tmp rfl) .const) (Zq rfl (QW.assign (.tmp rfl)) (Zn ?_))))
    refine J.cond (.tmp rfl) (fun c2 => ?_) (fun c2 => ?_)
    · try (exfalso; simp at *; omega; done)
      all_goals
        exact Zs (Zq rfl (QW.assign .const) (Zn (J.ret (blkQ.r (thenQ.r (Zr [] (RetEv.one rfl (REv.tmp rfl lr)) rfl ⟨by congr 3; simp at *; unfold argsN; (repeat' split) <;> omega, rfl⟩))))))
    try (exfalso; simp at *; omega; done)
    all_goals
      refine Zs (Zq rfl (QW.move (.tmp rfl)) (Zq rfl (QW.eql (.tmp rfl) .const) (Zq rfl (QW.assign (.tmp rfl)) (Zn ?_))))
      refine J.cond (.tmp rfl) (fun c3 => ?_) (fun c3 => ?_)
      · try (exfalso; simp at *; omega; done)
        all_goals
          exact Zs (Zq rfl (QW.assign .const) (Zn (J.ret (blkQ.r (thenQ.r (Zr [] (RetEv.one rfl (REv.tmp rfl lr)) rfl ⟨by congr 3; simp at *; unfold argsN; (repeat' split) <;> omega, rfl⟩))))))
      try (exfalso; simp at *; omega; done)
      all_goals
        refine J.skip (blkQ.n (thenQ.n (J.seq (Zs (Zq rfl (QW.move (.tmp rfl)) (Zn (J.block (J.seq (Zs ?_)))))))))
        refine Zq rfl (QW.eql (.tmp rfl) .const) (Zq rfl (QW.assign (.tmp rfl)) (Zn ?_))
        refine J.cond (.tmp rfl) (fun c4 => ?_) (fun c4 => ?_)
        · try (exfalso; simp at *; omega; done)
          all_goals
            refine Zk ?_
            refine J.cond (.tmp rfl) (fun c5 => ?_) (fun c5 => ?_)
            · try (exfalso; simp at *; omega; done)
              all_goals
                exact Zs (Zq rfl (QW.assign .const) (Zn (J.ret (blkQ.r (thenQ.r (Zr [] (RetEv.one rfl (REv.tmp rfl lr)) rfl ⟨by congr 3; simp at *; unfold argsN; (repeat' split) <;> omega, rfl⟩))))))
            try (exfalso; simp at *; omega; done)
            all_goals
              refine Zs (Zq rfl (QW.eql (.tmp rfl) .const) (Zq rfl (QW.assign (.tmp rfl)) (Zn ?_)))
              refine J.cond (.tmp rfl) (fun c6 => ?_) (fun c6 => ?_)
              · try (exfalso; simp at *; omega; done)
                all_goals
                  exact Zs (Zq rfl (QW.assign .const) (Zn (J.ret (blkQ.r (thenQ.r (Zr [] (RetEv.one rfl (REv.tmp rfl lr)) rfl ⟨by congr 3; simp at *; unfold argsN; (repeat' split) <;> omega, rfl⟩))))))
              try (exfalso; simp at *; omega; done)
              all_goals
                exact J.skip (blkQ.n (thenQ.n (Zs (Zq rfl (QW.assign .const) (Zn (J.ret (Zr [] (RetEv.one rfl (REv.tmp rfl lr)) rfl ⟨by congr 3; simp at *; unfold argsN; (repeat' split) <;> omega, rfl⟩)))))))
        try (exfalso; simp at *; omega; done)
        all_goals
          refine Zs (Zq rfl (QW.eql (.tmp rfl) .const) (Zq rfl (QW.assign (.tmp rfl)) (Zn ?_)))
          refine J.cond (.tmp rfl) (fun c5 => ?_) (fun c5 => ?_)
          · try (exfalso; simp at *; omega; done)
            all_goals
              refine Zk ?_
              refine J.cond (.tmp rfl) (fun c6 => ?_) (fun c6 => ?_)
              · try (exfalso; simp at *; omega; done)
                all_goals
                  exact Zs (Zq rfl (QW.assign .const) (Zn (J.ret (blkQ.r (thenQ.r (Zr [] (RetEv.one rfl (REv.tmp rfl lr)) rfl ⟨by congr 3; simp at *; unfold argsN; (repeat' split) <;> omega, rfl⟩))))))
              try (exfalso; simp at *; omega; done)
              all_goals
                refine Zs (Zq rfl (QW.eql (.tmp rfl) .const) (Zq rfl (QW.assign (.tmp rfl)) (Zn ?_)))
                refine J.cond (.tmp rfl) (fun c7 => ?_) (fun c7 => ?_)
                · try (exfalso; simp at *; omega; done)
                  all_goals
                    exact Zs (Zq rfl (QW.assign .const) (Zn (J.ret (blkQ.r (thenQ.r (Zr [] (RetEv.one rfl (REv.tmp rfl lr)) rfl ⟨by congr 3; simp at *; unfold argsN; (repeat' split) <;> omega, rfl⟩))))))
                try (exfalso; simp at *; omega; done)
                all_goals
                  exact J.skip (blkQ.n (thenQ.n (Zs (Zq rfl (QW.assign .const) (Zn (J.ret (Zr [] (RetEv.one rfl (REv.tmp rfl lr)) rfl ⟨by congr 3; simp at *; unfold argsN; (repeat' split) <;> omega, rfl⟩)))))))
          try (exfalso; simp at *; omega; done)
          all_goals
            refine Zs (Zq rfl (QW.eql (.tmp rfl) .const) (Zq rfl (QW.assign (.tmp rfl)) (Zn ?_)))
            refine J.cond (.tmp rfl) (fun c6 => ?_) (fun c6 => ?_)
            · try (exfalso; simp at *; omega; done)
              all_goals
                refine Zk ?_
                refine J.cond (.tmp rfl) (fun c7 => ?_) (fun c7 => ?_)
                · try (exfalso; simp at *; omega; done)
                  all_goals
                    exact Zs (Zq rfl (QW.assign .const) (Zn (J.ret (blkQ.r (thenQ.r (Zr [] (RetEv.one rfl (REv.tmp rfl lr)) rfl ⟨by congr 3; simp at *; unfold argsN; (repeat' split) <;> omega, rfl⟩))))))
                try (exfalso; simp at *; omega; done)
                all_goals
                  refine Zs (Zq rfl (QW.eql (.tmp rfl) .const) (Zq rfl (QW.assign (.tmp rfl)) (Zn ?_)))
                  refine J.cond (.tmp rfl) (fun c8 => ?_) (fun c8 => ?_)
                  · try (exfalso; simp at *; omega; done)
                    all_goals
                      exact Zs (Zq rfl (QW.assign .const) (Zn (J.ret (blkQ.r (thenQ.r (Zr [] (RetEv.one rfl (REv.tmp rfl lr)) rfl ⟨by congr 3; simp at *; unfold argsN; (repeat' split) <;> omega, rfl⟩))))))
                  try (exfalso; simp at *; omega; done)
                  all_goals
                    exact J.skip (blkQ.n (thenQ.n (Zs (Zq rfl (QW.assign .const) (Zn (J.ret (Zr [] (RetEv.one rfl (REv.tmp rfl lr)) rfl ⟨by congr 3; simp at *; unfold argsN; (repeat' split) <;> omega, rfl⟩)))))))
            try (exfalso; simp at *; omega; done)
            all_goals
              refine Zs (Zq rfl (QW.eql (.tmp rfl) .const) (Zq rfl (QW.assign (.tmp rfl)) (Zn ?_)))
              refine J.cond (.tmp rfl) (fun c7 => ?_) (fun c7 => ?_)
              · try (exfalso; simp at *; omega; done)
                all_goals
                  refine Zk ?_
                  refine J.cond (.tmp rfl) (fun c8 => ?_) (fun c8 => ?_)
                  · try (exfalso; simp at *; omega; done)
                    all_goals
                      exact Zs (Zq rfl (QW.assign .const) (Zn (J.ret (blkQ.r (thenQ.r (Zr [] (RetEv.one rfl (REv.tmp rfl lr)) rfl ⟨by congr 3; simp at *; unfold argsN; (repeat' split) <;> omega, rfl⟩))))))
                  try (exfalso; simp at *; omega; done)
                  all_goals
                    refine Zs (Zq rfl (QW.eql (.tmp rfl) .const) (Zq rfl (QW.assign (.tmp rfl)) (Zn ?_)))
                    refine J.cond (.tmp rfl) (fun c9 => ?_) (fun c9 => ?_)
                    · try (exfalso; simp at *; omega; done)
                      all_goals
                        exact Zs (Zq rfl (QW.assign .const) (Zn (J.ret (blkQ.r (thenQ.r (Zr [] (RetEv.one rfl (REv.tmp rfl lr)) rfl ⟨by congr 3; simp at *; unfold argsN; (repeat' split) <;> omega, rfl⟩))))))
                    try (exfalso; simp at *; omega; done)
                    all_goals
                      exact J.skip (blkQ.n (thenQ.n (Zs (Zq rfl (QW.assign .const) (Zn (J.ret (Zr [] (RetEv.one rfl (REv.tmp rfl lr)) rfl ⟨by congr 3; simp at *; unfold argsN; (repeat' split) <;> omega, rfl⟩)))))))
              try (exfalso; simp at *; omega; done)
              all_goals
                refine J.region_lit (Zq rfl (QW.eql (.tmp rfl) .const) (Zq rfl (QW.assign (.tmp rfl)) (Zn ?_)))
                refine J.cond (.tmp rfl) (fun c8 => ?_) (fun c8 => ?_)
                · try (exfalso; simp at *; omega; done)
                  all_goals
                    exact Zs (Zq rfl (QW.assign .const) (Zn (J.ret (blkQ.r (thenQ.r (Zr [] (RetEv.one rfl (REv.tmp rfl lr)) rfl ⟨by congr 3; simp at *; unfold argsN; (repeat' split) <;> omega, rfl⟩))))))
                try (exfalso; simp at *; omega; done)
                all_goals
                  refine Zs (Zq rfl (QW.eql (.tmp rfl) .const) (Zq rfl (QW.assign (.tmp rfl)) (Zn ?_)))
                  refine J.cond (.tmp rfl) (fun c9 => ?_) (fun c9 => ?_)
                  · try (exfalso; simp at *; omega; done)
                    all_goals
                      exact Zs (Zq rfl (QW.assign .const) (Zn (J.ret (blkQ.r (thenQ.r (Zr [] (RetEv.one rfl (REv.tmp rfl lr)) rfl ⟨by congr 3; simp at *; unfold argsN; (repeat' split) <;> omega, rfl⟩))))))
                  try (exfalso; simp at *; omega; done)
                  all_goals
                    exact J.skip (blkQ.n (thenQ.n (Zs (Zq rfl (QW.assign .const) (Zn (J.ret (Zr [] (RetEv.one rfl (REv.tmp rfl lr)) rfl ⟨by congr 3; simp at *; unfold argsN; (repeat' split) <;> omega, rfl⟩)))))))
theorem rtexts_ok (o : Int) : Fn Tryz.prog 61 [.c (.int .i64 o)] (.tup [.c (.int .i64 (textLo o)), .c (.int .i64 (textHi o))]) := by
  refine AC.of_J Tryz.func61 rfl Tryz.ntmps61 rfl fun w0 A0 => ?_
  refine Zs (Zq rfl (QW.assign .const) (Zq rfl (QW.assign .const) (Zn (J.seq (Zs (Zq rfl (QW.move (.tmp rfl)) (Zn (J.block (Zs ?_)))))))))
  refine Zq rfl (QW.eql (.tmp rfl) .const) (Zq rfl (QW.assign (.tmp rfl)) (Zn ?_))
  refine J.cond (.tmp rfl) (fun c1 => ?_) (fun c1 => ?_)
  · try (exfalso; simp at *; omega; done)
    all_goals
      exact Zs (Zq rfl (QW.assign .const) (Zq rfl (QW.assign .const) (Zn (J.ret (blkQ.r (thenQ.r (Zr [] (RetEv.two rfl (REv.tmp rfl lr) (REv.tmp rfl lr)) rfl ⟨by simp at *; unfold textLo textHi; (repeat' split) <;> first | rfl | omega, rfl⟩)))))))
  try (exfalso; simp at *; omega; done)
  all_goals
    refine J.seq (Zs (Zq rfl (QW.eql (.tmp rfl) .const) (Zq rfl (QW.assign (.tmp rfl)) (Zn ?_))))
    refine J.cond (.tmp rfl) (fun c2 => ?_) (fun c2 => ?_)
    · try (exfalso; simp at *; omega; done)
      all_goals
        refine Zk ?_
        refine J.cond (.tmp rfl) (fun c3 => ?_) (fun c3 => ?_)
        · try (exfalso; simp at *; omega; done)
          all_goals
            exact Zs (Zq rfl (QW.assign .const) (Zq rfl (QW.assign .const) (Zn (J.ret (blkQ.r (thenQ.r (Zr [] (RetEv.two rfl (REv.tmp rfl lr) (REv.tmp rfl lr)) rfl ⟨by simp at *; unfold textLo textHi; (repeat' split) <;> first | rfl | omega, rfl⟩)))))))
        try (exfalso; simp at *; omega; done)
        all_goals
          exact J.skip (blkQ.n (thenQ.n (Zs (Zq rfl (QW.assign .const) (Zq rfl (QW.assign .const) (Zn (J.ret (Zr [] (RetEv.two rfl (REv.tmp rfl lr) (REv.tmp rfl lr)) rfl ⟨by simp at *; unfold textLo textHi; (repeat' split) <;> first | rfl | omega, rfl⟩))))))))
    try (exfalso; simp at *; omega; done)
    all_goals
      refine J.region_lit (Zq rfl (QW.eql (.tmp rfl) .const) (Zq rfl (QW.assign (.tmp rfl)) (Zn ?_)))
      refine J.cond (.tmp rfl) (fun c3 => ?_) (fun c3 => ?_)
      · try (exfalso; simp at *; omega; done)
        all_goals
          exact Zs (Zq rfl (QW.assign .const) (Zq rfl (QW.assign .const) (Zn (J.ret (blkQ.r (thenQ.r (Zr [] (RetEv.two rfl (REv.tmp rfl lr) (REv.tmp rfl lr)) rfl ⟨by simp at *; unfold textLo textHi; (repeat' split) <;> first | rfl | omega, rfl⟩)))))))
      try (exfalso; simp at *; omega; done)
      all_goals
        exact J.skip (blkQ.n (thenQ.n (Zs (Zq rfl (QW.assign .const) (Zq rfl (QW.assign .const) (Zn (J.ret (Zr [] (RetEv.two rfl (REv.tmp rfl lr) (REv.tmp rfl lr)) rfl ⟨by simp at *; unfold textLo textHi; (repeat' split) <;> first | rfl | omega, rfl⟩))))))))
theorem partOk_mk (o : Int) (b : Nat) (t : List UInt8) (l : List EX) : (EX.mk o b t l).ok = (decide (argsN o ≠ -2) && (argsN o == -1 || ((l.length : Int) == argsN o)) && decide ((l.length : Int) ≤ 8) && decide (textLo o ≤ (t.length : Int)) && decide ((t.length : Int) ≤ textHi o) &&
    (if o = 3 then canonN b == b else b == 0)) := rfl
theorem rpart_arith {q n lo hi tl : Int} {z : Bool} (hq : q = -2 ∨ q = -1 ∨ (0 ≤ q ∧ q ≤ 3)) :
    (decide (q ≠ -2) && (q == -1 || (n == q)) && decide (n ≤ 8) && decide (lo ≤ tl) && decide (tl ≤ hi) && z) = (!((((q == -2) || (decide (0 ≤ q) && (n != q))) || decide (8 < n)) || decide (tl < lo) || decide (hi < tl)) && z) := by
  cases z with
  | false => simp
  | true =>
    rw [Bool.eq_iff_iff]
    simp
    omega
theorem rpart_eq {o : Int} {b : Nat} {t : List UInt8} {l : List EX} {n : Int} (hn : n = (l.length : Int)) :
    (EX.mk o b t l).ok = (!((((argsN o == -2) || (decide (0 ≤ argsN o) && (n != argsN o))) || decide (8 < n)) || decide ((t.length : Int) < textLo o) || decide (textHi o < (t.length : Int))) && (if o = 3 then canonN b == b else b == 0)) := by
  subst hn
  rw [partOk_mk, rpart_arith]
  unfold argsN; (repeat' split) <;> omega
theorem erpart_ok {fr : Bool} {v : EX} {ys : List AV} (hv : Xc fr v ys) (hw : v.wf) : Fn Tryz.prog 38 [.agg ys] (.c (.bool v.ok)) := by
  obtain ⟨o, b, t, l⟩ := v
  subst hv
  have hb := hw.inv.2.1
  refine AC.of_J Tryz.func38 rfl Tryz.ntmps38 rfl fun w0 A0 => ?_
  refine Zs (JL.box_agg (.tmp rfl) rfl fun b1 => Zq rfl (QW.assign .const) (Zn (Zs (Zq rfl (QW.field_ptr fo25_0 (.tmp rfl) rfl) (Zq rfl (QW.load_box1 0 ty3 (.tmp rfl) rfl rfl) (Zq rfl (QW.call gofn60 (.cons (.tmp rfl) .nil) (rargs_ok _)) (Zq rfl (QW.assign (.tmp rfl)) (Zn ?_))))))))
  refine Zs (Zq rfl (QW.field_ptr fo25_0 (.tmp rfl) rfl) (Zq rfl (QW.load_box1 0 ty3 (.tmp rfl) rfl rfl) (Zq rfl (QW.call gofn61 (.cons (.tmp rfl) .nil) (rtexts_ok _)) (Zq rfl (QW.move (.tmp rfl)) (Zq rfl (QW.extract (.tmp rfl) rfl) (Zq rfl (QW.extract (.tmp rfl) rfl) (Zq rfl (QW.assign (.tmp rfl)) (Zq rfl (QW.assign (.tmp rfl)) (Zn ?_)))))))))
  refine J.seq (Zs (Zq rfl (QW.move (.tmp rfl)) (Zq rfl (QW.eql (.tmp rfl) .const) (Zq rfl (QW.move (.tmp rfl)) (Zg rfl (fun hg => (QW.move (.tmp rfl))) (Zg rfl (fun hg => (QW.geq (.when rfl hg) .const)) (Zg rfl (fun hg => (QW.move (.when rfl hg))) (JL.gg rfl rfl rfl rfl rfl (fun hg => (QW.field_ptr fo25_3 (.tmp rfl) rfl)) (JL.gg rfl rfl rfl rfl rfl (fun hg => (QW.load_box1 0 ty23 (.when rfl hg) rfl rfl)) ?_)))))))))
  refine JL.gg rfl rfl rfl rfl rfl (fun hg => (QW.len_sl sl23 (.when rfl hg))) (JL.gg rfl rfl rfl rfl rfl (fun hg => (QW.move (.tmp rfl))) (JL.gg rfl rfl rfl rfl rfl (fun hg => (QW.neq (.when rfl hg) (.when rfl hg))) (Zg rfl (fun hg => (QW.pick_and2 hg (.when rfl hg) (.tmp rfl))) (Zq rfl (QW.pick_or (.tmp rfl) (.tmp rfl)) (Zq rfl (QW.move (.tmp rfl)) (Zg rfl (fun hg => (QW.field_ptr fo25_3 (.tmp rfl) rfl)) (Zg rfl (fun hg => (QW.load_box1 0 ty23 (.when rfl hg) rfl rfl)) (Zg rfl (fun hg => (QW.len_sl sl23 (.when rfl hg))) (Zg rfl (fun hg => (QW.gtr (.when rfl hg) .const)) ?_)))))))))
  refine Zq rfl (QW.pick_or (.tmp rfl) (.tmp rfl)) (Zq rfl (QW.move (.tmp rfl)) (Zg rfl (fun hg => (QW.field_ptr fo25_2 (.tmp rfl) rfl)) (Zg rfl (fun hg => (QW.load_box1 0 ty9 (.when rfl hg) rfl rfl)) (Zg rfl (fun hg => (QW.len_s st9 (.when rfl hg))) (Zg rfl (fun hg => (QW.move (.tmp rfl))) (Zg rfl (fun hg => (QW.lss (.when rfl hg) (.when rfl hg))) (Zq rfl (QW.pick_or (.tmp rfl) (.tmp rfl)) (Zq rfl (QW.move (.tmp rfl)) (Zg rfl (fun hg => (QW.field_ptr fo25_2 (.tmp rfl) rfl)) ?_)))))))))
  refine Zg rfl (fun hg => (QW.load_box1 0 ty9 (.when rfl hg) rfl rfl)) (Zg rfl (fun hg => (QW.len_s st9 (.when rfl hg))) (Zg rfl (fun hg => (QW.move (.tmp rfl))) (Zg rfl (fun hg => (QW.gtr (.when rfl hg) (.when rfl hg))) (Zq rfl (QW.pick_or (.tmp rfl) (.tmp rfl)) (Zn ?_)))))
  refine J.cond (.tmp rfl) (fun c1 => ?_) (fun c1 => ?_)
  · skip
    exact Zs (Zq rfl (QW.assign .const) (Zn (J.ret (thenQ.r (Zr [.k] (RetEv.one rfl (REv.tmp rfl lr)) rfl ⟨by rw [rpart_eq (n := ((EX.css fr l).length : Int)) (by rw [EX.css_length]), c1]; rfl, rfl⟩)))))
  refine Zk (J.seq (Zs (Zq rfl (QW.field_ptr fo25_0 (.tmp rfl) rfl) (Zq rfl (QW.load_box1 0 ty3 (.tmp rfl) rfl rfl) (Zq rfl (QW.eql (.tmp rfl) .const) (Zn ?_))))))
  refine J.cond (.tmp rfl) (fun c2 => ?_) (fun c2 => ?_)
  · skip
    have h3 : o = 3 := by simpa using c2
    refine J.seq (J.region_tailK 5 mixed (by kernel_rfl) (by kernel_rfl) (by kernel_rfl) rfl ?_)
    refine .cons [] rfl rfl rfl (.q rfl (QW.field_ptr fo25_1 (.tmp rfl) rfl)) ?_
    refine .cons [51] rfl rfl rfl (.q rfl (QW.load_box1 0 ty22 (.tmp rfl) rfl rfl)) ?_
    refine .cons [52] rfl rfl rfl (.q rfl (QW.call gofn62 (.cons (.tmp rfl) .nil) (rcanon_ok _ (by assumption)))) ?_
    refine .cons [] rfl rfl rfl (.q rfl (QW.field_ptr fo25_1 (.tmp rfl) rfl)) ?_
    refine .cons [54] rfl rfl rfl (.q rfl (QW.load_box1 0 ty22 (.tmp rfl) rfl rfl)) ?_
    refine .nil ?_
    exact Zq rfl (QW.eql (.tmp rfl) (.tmp rfl)) (Zq rfl (QW.assign (.tmp rfl)) (Zn (J.ret (thenQ.r (Zr [.k] (RetEv.one rfl (REv.tmp rfl lr)) rfl ⟨by rw [rpart_eq (n := ((EX.css fr l).length : Int)) (by rw [EX.css_length]), c1, if_pos h3]; congr 3; rw [Bool.eq_iff_iff]; simp; omega, rfl⟩)))))
  have h3 : ¬ o = 3 := by simpa using c2
  exact Zk (Zs (Zq rfl (QW.field_ptr fo25_1 (.tmp rfl) rfl) (Zq rfl (QW.load_box1 0 ty22 (.tmp rfl) rfl rfl) (Zq rfl (QW.eql (.tmp rfl) .const) (Zq rfl (QW.assign (.tmp rfl)) (Zn (J.ret (Zr [.k] (RetEv.one rfl (REv.tmp rfl lr)) rfl ⟨by rw [rpart_eq (n := ((EX.css fr l).length : Int)) (by rw [EX.css_length]), c1, if_neg h3]; congr 3; rw [Bool.eq_iff_iff]; simp, rfl⟩))))))))
end Go.Proofs.YtjhonjdhanlbkaaGreat.J

/- Walks: both walks over an expression. -/
namespace Go.Proofs.YtjhonjdhanlbkaaGreat.J
open Go Go.RowKit
set_option maxRecDepth 10000
set_option maxHeartbeats 4000000
theorem EX.chks_cons {is : List EX} {j : Nat} (h : j < is.length) (lev n : Int) : EX.chks (is.drop j) lev n = if (EX.chk is[j] (lev + 1) n).1 ≠ 0 then EX.chk is[j] (lev + 1) n else EX.chks (is.drop (j + 1)) lev (EX.chk is[j] (lev + 1) n).2 := by
  rw [List.drop_eq_getElem_cons h, EX.chks]
theorem EX.depths_cons {is : List EX} {j : Nat} (h : j < is.length) : EX.depths (is.drop j) = max is[j].depth (EX.depths (is.drop (j + 1))) := by
  rw [List.drop_eq_getElem_cons h, EX.depths]
def EWalkR (v : EX) (lev n : Int) : AV → List Own → Prop := fun x o => o = [] ∧ ∃ p d : Int, x = .tup [.c (.int .i64 p), .c (.int .i64 d), .c (.int .i64 (v.chk lev n).1)] ∧ ((v.chk lev n).1 = 0 → p = (v.chk lev n).2 ∧ d = lev + v.depth - 1)
theorem EWalkR.mk {v : EX} {lev n p d e : Int} (he : e = (v.chk lev n).1) (h : (v.chk lev n).1 = 0 → p = (v.chk lev n).2 ∧ d = lev + v.depth - 1) : RetR (EWalkR v lev n) (.ret (.tup [.c (.int .i64 p), .c (.int .i64 d), .c (.int .i64 e)])) [] :=
  ⟨_, rfl, rfl, p, d, by rw [he], h⟩
theorem erwalk_n  : ∀ (n : Nat) {v : EX} {ys : List AV} {fr : Bool} {lev p : Int}, Xc fr v ys → v.wf → 1 ≤ lev ∧ lev ≤ 9 → 0 ≤ p ∧ p ≤ 64 → v.sz ≤ n →
    AC Tryz.prog 28 [] [.agg ys, .c (.int .i64 lev), .c (.int .i64 p)] (RetR (EWalkR v lev p)) := by
  intro n
  induction n with
  | zero => intro v ys fr lev p hv hw hl hp h; exact absurd h (by have := EX.sz_pos v; omega)
  | succ n ih =>
    intro v ys fr lev p hv hw hl hp hn
    obtain ⟨o, b, t, is⟩ := v
    subst hv
    obtain ⟨-, -, -, hi80, hwi⟩ := hw.inv
    have hi64 : is.length ≤ 9223372036854775806 := by unfold reach at hi80; omega
    refine AC.of_J Tryz.func28 rfl Tryz.ntmps28 rfl fun w0 A0 => ?_
    refine Zs (JL.box_agg (.tmp rfl) rfl fun b3 => Zq rfl (QW.assign .const) (Zq rfl (QW.assign .const) (Zq rfl (QW.assign .const) (Zn (J.seq (J.block (Zs (Zq rfl (QW.move (.tmp rfl)) ?_))))))))
    refine Zq rfl (QW.gtr (.tmp rfl) .const) (Zq rfl (QW.assign (.tmp rfl)) (Zn ?_))
    refine J.cond (.tmp rfl) (fun c1 => ?_) (fun c1 => ?_)
    · skip
      simp at c1
      exact Zs (Zq rfl (QW.move (.tmp rfl)) (Zq rfl (QW.move (.tmp rfl)) (Zq rfl (QW.assign (.tmp rfl)) (Zq rfl (QW.assign (.tmp rfl)) (Zq rfl (QW.assign .const) (Zn (J.ret (blkQ.r (thenQ.r (Zr [.k] (RetEv.three rfl (REv.tmp rfl lr) (REv.tmp rfl lr) (REv.tmp rfl lr)) rfl (EWalkR.mk (by simp [EX.chk, c1]) (fun h => by simp [EX.chk, c1] at h))))))))))))
    simp at c1
    refine Zs (Zq rfl (QW.move (.tmp rfl)) (Zq rfl (QW.geq (.tmp rfl) .const) (Zq rfl (QW.assign (.tmp rfl)) (Zn ?_))))
    refine J.cond (.tmp rfl) (fun c2 => ?_) (fun c2 => ?_)
    · skip
      simp at c2
      exact Zs (Zq rfl (QW.move (.tmp rfl)) (Zq rfl (QW.move (.tmp rfl)) (Zq rfl (QW.assign (.tmp rfl)) (Zq rfl (QW.assign (.tmp rfl)) (Zq rfl (QW.assign .const) (Zn (J.ret (blkQ.r (thenQ.r (Zr [.k] (RetEv.three rfl (REv.tmp rfl lr) (REv.tmp rfl lr) (REv.tmp rfl lr)) rfl (EWalkR.mk (by simp [EX.chk, show ¬ 8 < lev by omega, c2]) (fun h => by simp [EX.chk, show ¬ 8 < lev by omega, c2] at h))))))))))))
    simp at c2
    refine Zs (Zq rfl (QW.load_box 0 ty25 (.tmp rfl) rfl rfl rfl) (Zq rfl (QW.call gofn38 (.cons (.tmp rfl) .nil) (erpart_ok Xc.mk hw)) (Zq rfl (QW.not (.tmp rfl)) (Zq rfl (QW.assign (.tmp rfl)) (Zn ?_)))))
    refine J.cond (.tmp rfl) (fun c3 => ?_) (fun c3 => ?_)
    · skip
      simp at c3
      exact Zs (Zq rfl (QW.move (.tmp rfl)) (Zq rfl (QW.move (.tmp rfl)) (Zq rfl (QW.assign (.tmp rfl)) (Zq rfl (QW.assign (.tmp rfl)) (Zq rfl (QW.assign .const) (Zn (J.ret (blkQ.r (thenQ.r (Zr [.k] (RetEv.three rfl (REv.tmp rfl lr) (REv.tmp rfl lr) (REv.tmp rfl lr)) rfl (EWalkR.mk (by simp [EX.chk, show ¬ 8 < lev by omega, show ¬ 64 ≤ p by omega, c3]) (fun h => by simp [EX.chk, show ¬ 8 < lev by omega, show ¬ 64 ≤ p by omega, c3] at h))))))))))))
    simp at c3
    refine J.skip (blkQ.n (thenQ.n (Zs (Zq rfl (QW.move (.tmp rfl)) (Zq rfl (QW.add (.tmp rfl) .const (w64 (by omega))) (Zq rfl (QW.assign (.tmp rfl)) (Zn (Zs (Zq rfl (QW.move (.tmp rfl)) ?_)))))))))
    refine Zq rfl (QW.assign (.tmp rfl)) (Zn (J.seq (Zs (Zq rfl (QW.assign .const) (Zn (J.block ?_))))))
    have hck : EX.chk (.mk o b t is) lev p = EX.chks is lev (p + 1) := by unfold EX.chk; rw [if_neg (by omega), if_neg (by omega), if_neg (by simp [c3])]
    refine J.loopK (ι := Nat × Int × Int) [1, 3] (fun ⟨j, q, e⟩ => [(10, .c (.int .i64 (j : Int))), (2, .c (.int .i64 q)), (9, .c (.int .i64 e))]) (fun _ oo => oo) (fun ⟨j, q, e⟩ => j ≤ is.length ∧ EX.chks is lev (p + 1) = EX.chks (is.drop j) lev q ∧ max e (lev + EX.depths (is.drop j)) = lev + EX.depths is ∧ (0 ≤ q ∧ q ≤ 64 ∧ lev ≤ e)) (fun ⟨j, q, e⟩ => is.length - j) ⟨0, p + 1, lev⟩ (⟨Nat.zero_le _, rfl, by have := EX.depths_nonneg is; rw [List.drop_zero]; omega, by omega⟩) (Wk.re (.cons rfl lr (.cons rfl lr (.cons rfl lr (.cons rfl lr (.cons rfl lr .nil))))) (Reown.refl _) (fun _ h => by first | exact h | simp [h])) ?_
    intro ⟨j, q, e⟩ ⟨hj, hcs, hde, hq⟩
    refine J.conv (by (try simp only [nl, stepsO, valO, nthO, curO, mrg, AV.cellsOf, splice_zero, splice_succ, Nat.reduceAdd]); rfl) ?_
    refine J.seq (Zs (Zq rfl (QW.move (.tmp rfl)) (Zq rfl (QW.field_ptr fo25_3 (.tmp rfl) rfl) (Zq rfl (QW.load_box1 0 ty23 (.tmp rfl) rfl rfl) (Zq rfl (QW.len_sl sl23 (.tmp rfl)) (Zq rfl (QW.lss (.tmp rfl) (.tmp rfl)) (Zn ?_)))))))
    refine J.cond (.tmp rfl) (fun c4 => ?_) (fun c4 => ?_)
    · skip
      have hlt : j < is.length := by simpa [EX.css_length] using c4
      refine Zk (J.seq (J.block (Zs ?_)))
      have hlt : j < is.length := by simpa [EX.css_length] using c4
      refine Zq rfl (QW.field_ptr fo25_3 (.tmp rfl) rfl) (Zq rfl (QW.load_box1 0 ty23 (.tmp rfl) rfl rfl) (Zq rfl (QW.move (.tmp rfl)) (Zq rfl (QW.index_sl sl23 ty25 rfl (.tmp rfl) (.tmp rfl) rfl (by exact EX.css_getE _ hlt)) ?_)))
      refine Zq rfl (QW.load_ref ty25 (.tmp rfl) (take_at0 xl rfl) xl) (Zq rfl (QW.move (.tmp rfl)) (Zq rfl (QW.add (.tmp rfl) .const (w64 (by omega))) (Zq rfl (QW.move (.tmp rfl)) (JL.callRF [] gofn28 rfl Lent.nil (fun _ => (.cons (.tmp rfl) (.cons (.tmp rfl) (.cons (.tmp rfl) .nil)))) (ih (Xc.self) (hwi _ (List.getElem_mem _)) (by omega) (by omega) (EX.sz_get hn hlt)) (.inl rfl) fun x49 o49 h49 => ?_))))
      obtain ⟨rfl, p49, d49, rfl, hp49⟩ := h49
      refine Zq rfl (QW.move (.tmp rfl)) (Zq rfl (QW.extract (.tmp rfl) rfl) (Zq rfl (QW.extract (.tmp rfl) rfl) (Zq rfl (QW.extract (.tmp rfl) rfl) (Zq rfl (QW.assign (.tmp rfl)) (Zq rfl (QW.assign (.tmp rfl)) (Zq rfl (QW.assign (.tmp rfl)) (Zn (J.seq (Zs ?_)))))))))
      refine Zq rfl (QW.move (.tmp rfl)) (Zq rfl (QW.neq (.tmp rfl) .const) (Zn ?_))
      refine J.cond (.tmp rfl) (fun c5 => ?_) (fun c5 => ?_)
      · skip
        simp at c5
        refine Zs (Zq rfl (QW.move (.tmp rfl)) (Zq rfl (QW.move (.tmp rfl)) (Zq rfl (QW.move (.tmp rfl)) (Zq rfl (QW.assign (.tmp rfl)) (Zq rfl (QW.assign (.tmp rfl)) (Zq rfl (QW.assign (.tmp rfl)) (Zn (J.ret (thenQ.r ?_)))))))))
        refine blkQ.r (thenQ.r (thenQ.r (blkQ.r (thenQ.r ?_))))
        rw [EX.chks_cons hlt, if_pos (by simpa using c5)] at hcs
        have he := hck.trans hcs
        exact Zr [.k] (RetEv.three rfl (REv.tmp rfl lr) (REv.tmp rfl lr) (REv.tmp rfl lr)) rfl (EWalkR.mk (by rw [he]) (fun h => absurd (by rw [he] at h; exact h) c5))
      simp at c5
      refine Zk (J.region_lit (Zq rfl (QW.move (.tmp rfl)) (Zq rfl (QW.move (.tmp rfl)) (Zq rfl (QW.move (.tmp rfl)) (Zq rfl (QW.max2 (.tmp rfl) (.tmp rfl)) (Zq rfl (QW.assign (.tmp rfl)) (Zq rfl (QW.assign (.tmp rfl)) (JL.nil (blkQ.n ?_)))))))))
      refine thenQ.n (J.region_lit (Zq rfl (QW.move (.tmp rfl)) (Zq rfl (QW.add (.tmp rfl) .const (w64 (by omega))) (Zq rfl (QW.assign (.tmp rfl)) (Zn ?_)))))
      have hb := EX.chk_bounds is[j] (lev + 1) q
      obtain ⟨hq1, hq2⟩ := hp49 c5
      rw [EX.chks_cons hlt, if_neg (by simp [c5])] at hcs
      rw [EX.depths_cons hlt] at hde
      exact ⟨⟨j + 1, p49, max e d49⟩, ⟨hlt, by rw [hcs, hq1], by omega, by omega⟩, by show is.length - (j + 1) < is.length - j; omega, Wk.re (.cons rfl lr (.cons rfl lr (.cons rfl (Le.intE (by simp only [Int.max_def]; split <;> split <;> omega)) (.cons rfl lr (.cons rfl lr .nil))))) (Reown.refl _) (fun _ h => by first | exact h | simp [h])⟩
    have hge : is.length ≤ j := by simpa [EX.css_length] using c4
    refine J.exit (thenQ.x (thenQ.x (blkQ.hit (thenQ.n (Zs (Zq rfl (QW.move (.tmp rfl)) (Zq rfl (QW.move (.tmp rfl)) (Zq rfl (QW.assign (.tmp rfl)) (Zq rfl (QW.assign (.tmp rfl)) ?_)))))))))
    refine Zq rfl (QW.assign .const) (Zn (J.ret ?_))
    obtain rfl : j = is.length := by omega
    simp only [List.drop_length, EX.chks, EX.depths] at hcs hde
    have he := hck.trans hcs
    exact Zr [.k] (RetEv.three rfl (REv.tmp rfl lr) (REv.tmp rfl lr) (REv.tmp rfl lr)) rfl (EWalkR.mk (by rw [he]) (fun h => ⟨by rw [he], by unfold EX.depth; omega⟩))
theorem erwalk_ok {v : EX} {ys : List AV} {fr : Bool} {lev p : Int} (hv : Xc fr v ys) (hw : v.wf) (hl : 1 ≤ lev ∧ lev ≤ 9) (hp : 0 ≤ p ∧ p ≤ 64) :
    AC Tryz.prog 28 [] [.agg ys, .c (.int .i64 lev), .c (.int .i64 p)] (RetR (EWalkR v lev p)) := erwalk_n _ hv hw hl hp (Nat.le_refl _)
def EWR (v : EX) (lev p d : Int) (bw : Nat) : Res → List Own → Prop := PanR ((v.chk lev p).1 = 0) (errV (v.chk lev p).1) fun x o => x = .tup [] ∧ o = [wk bw (v.chk lev p).2 (max d (lev + v.depth - 1))]
theorem ewalk_n  : ∀ (n : Nat) {v : EX} {ys : List AV} {fr : Bool} {lev p d : Int} {bw : Nat}, Xc fr v ys → v.wf → 1 ≤ lev ∧ lev ≤ 9 → 0 ≤ p ∧ p ≤ 64 → v.sz ≤ n →
    AC Tryz.prog 42 [wk bw p d] [.c (.pointer (some ⟨bw, 0, none⟩)), .agg ys, .c (.int .i64 lev)] (EWR v lev p d bw) := by
  intro n
  induction n with
  | zero => intro v ys fr lev p d bw hv hw hl hp h; exact absurd h (by have := EX.sz_pos v; omega)
  | succ n ih =>
    intro v ys fr lev p d bw hv hw hl hp hn
    obtain ⟨o, b, t, is⟩ := v
    subst hv
    obtain ⟨-, -, -, hi80, hwi⟩ := hw.inv
    have hi64 : is.length ≤ 9223372036854775806 := by unfold reach at hi80; omega
    refine AC.of_J Tryz.func42 rfl Tryz.ntmps42 rfl fun w0 A0 => ?_
    refine Zs (JL.box_agg (.tmp rfl) rfl fun b4 => Zn (Zs (Zq rfl (QW.move (.tmp rfl)) (Zq rfl (QW.leq (.tmp rfl) .const) ?_))))
    refine JL.callPF [] gofn64 rfl Lent.nil (fun _ => (.cons (.tmp rfl) (.cons .const .nil))) (need_ok _ _) (.inl rfl) (fun k10 x10 o10 h10 => ?_) (fun k10 => ?_)
    rotate_left
    · skip
      refine thenQ.p ?_
      exact ⟨_, selP [.k, .k] _, _, rfl, rfl, sel_perm [.k, .k] _, PanR.of (by simp [EX.chk, show 8 < lev by simpa using k10]) (by decide)⟩
    obtain ⟨rfl, rfl⟩ := h10
    refine Zn (Zs ?_)
    have hk10 : lev ≤ 8 := by simpa using k10
    refine Zq rfl (QW.move (.tmp rfl)) (Zq rfl (QW.nil_ptr (.tmp rfl)) (Zq rfl (QW.field_ptr fo83_0 (.tmp rfl) rfl) (Zq rfl (QW.load_box1 1 ty3 (.tmp rfl) rfl rfl) (Zq rfl (QW.lss (.tmp rfl) .const) ?_))))
    refine JL.callPF [] gofn64 rfl Lent.nil (fun _ => (.cons (.tmp rfl) (.cons .const .nil))) (need_ok _ _) (.inl rfl) (fun k16 x16 o16 h16 => ?_) (fun k16 => ?_)
    rotate_left
    · skip
      refine thenQ.p ?_
      exact ⟨_, selP [.k, .k] _, _, rfl, rfl, sel_perm [.k, .k] _, PanR.of (by simp [EX.chk, show ¬ 8 < lev by omega, show 64 ≤ p by simpa using k16]) (by decide)⟩
    obtain ⟨rfl, rfl⟩ := h16
    refine Zn (Zs ?_)
    have hk16 : p < 64 := by simpa using k16
    refine Zq rfl (QW.load_box 0 ty34 (.tmp rfl) rfl rfl rfl) (Zq rfl (QW.call gofn65 (.cons (.tmp rfl) .nil) (epart_ok Xc.mk)) ?_)
    refine JL.callPF [] gofn64 rfl Lent.nil (fun _ => (.cons (.tmp rfl) (.cons .const .nil))) (need_ok _ _) (.inl rfl) (fun k19 x19 o19 h19 => ?_) (fun k19 => ?_)
    rotate_left
    · skip
      refine thenQ.p ?_
      exact ⟨_, selP [.k, .k] _, _, rfl, rfl, sel_perm [.k, .k] _, PanR.of (by simp [EX.chk, show ¬ 8 < lev by omega, show ¬ 64 ≤ p by omega, show (EX.mk o b t is).ok = false by simpa using k19]) (by decide)⟩
    obtain ⟨rfl, rfl⟩ := h19
    refine Zn (Zs ?_)
    have hk19 : (EX.mk o b t is).ok = true := k19
    refine Zq rfl (QW.move (.tmp rfl)) (Zq rfl (QW.nil_ptr (.tmp rfl)) (Zq rfl (QW.field_ptr fo83_0 (.tmp rfl) rfl) (Zq rfl (QW.load_box1 1 ty3 (.tmp rfl) rfl rfl) (Zq rfl (QW.add (.tmp rfl) .const (w64 (by omega))) (Zq rfl (QW.nil_ptr (.tmp rfl)) (Zq rfl (QW.field_ptr fo83_0 (.tmp rfl) rfl) (JL.store_box 1 ty3 (.tmp rfl) rfl (.tmp rfl) rfl rfl rfl rfl rfl (Zn (Zs ?_)))))))))
    refine Zq rfl (QW.move (.tmp rfl)) (Zq rfl (QW.move (.tmp rfl)) (Zq rfl (QW.nil_ptr (.tmp rfl)) (Zq rfl (QW.field_ptr fo83_1 (.tmp rfl) rfl) (Zq rfl (QW.load_box1 1 ty3 (.tmp rfl) rfl rfl) (Zq rfl (QW.move (.tmp rfl)) (Zq rfl (QW.max2 (.tmp rfl) (.tmp rfl)) (Zq rfl (QW.nil_ptr (.tmp rfl)) (Zq rfl (QW.field_ptr fo83_1 (.tmp rfl) rfl) (JL.store_box 1 ty3 (.tmp rfl) rfl (.tmp rfl) rfl rfl rfl rfl rfl ?_)))))))))
    refine Zn (Zs (Zq rfl (QW.field_ptr fo34_3 (.tmp rfl) rfl) (Zq rfl (QW.load_box1 0 ty32 (.tmp rfl) rfl rfl) (Zq rfl (QW.len_sl sl32 (.tmp rfl)) (Zq rfl (QW.move .const) (Zn (J.block ?_)))))))
    have hck : EX.chk (.mk o b t is) lev p = EX.chks is lev (p + 1) := by unfold EX.chk; rw [if_neg (by omega), if_neg (by omega), if_neg (by simp [hk19])]
    refine J.loopK (ι := Nat × Int × Int) [0, 2, 37, 38] (fun ⟨j, q, e⟩ => [(39, .c (.int .i64 (j : Int)))]) (fun ⟨j, q, e⟩ oo => List.set oo 1 (wk bw q e)) (fun ⟨j, q, e⟩ => j ≤ is.length ∧ EX.chks is lev (p + 1) = EX.chks (is.drop j) lev q ∧ max e (lev + EX.depths (is.drop j)) = max d (lev + EX.depths is) ∧ (0 ≤ q ∧ q ≤ 64 ∧ lev ≤ e)) (fun ⟨j, q, e⟩ => is.length - j) ⟨0, p + 1, if lev > d then lev else d⟩ (⟨Nat.zero_le _, rfl, by have := EX.depths_nonneg is; rw [List.drop_zero]; split <;> omega, by split <;> omega⟩) (Wk.re (.cons rfl lr (.cons rfl lr (.cons rfl lr (.cons rfl lr (.cons rfl lr .nil))))) (Reown.refl _) (fun _ h => by first | exact h | simp [h])) ?_
    intro ⟨j, q, e⟩ ⟨hj, hcs, hde, hq⟩
    refine J.conv (by (try simp only [nl, stepsO, valO, nthO, curO, mrg, AV.cellsOf, splice_zero, splice_succ, Nat.reduceAdd]); rfl) ?_
    refine Zs (Zq rfl (QW.lss (.tmp rfl) (.tmp rfl)) (Zn (J.seq ?_)))
    refine J.cond (.tmp rfl) (fun c1 => ?_) (fun c1 => ?_)
    · skip
      have hlt : j < is.length := by simpa [EX.css_length] using c1
      refine Zk (J.seq (J.block (Zs (Zq rfl (QW.index_sl sl32 ty34 rfl (.tmp rfl) (.tmp rfl) rfl (by exact EX.css_getE _ hlt)) ?_))))
      refine Zq rfl (QW.load_ref ty34 (.tmp rfl) (take_at0 xl rfl) xl) (JL.alloc z34 rfl rfl fun b7 => JL.store_boxF 0 ty34 (.tmp rfl) rfl (.tmp rfl) rfl xl rfl rfl (Zn (J.region_lit (Zq rfl (QW.move (.tmp rfl)) (Zq rfl (QW.load_box 0 ty34 (.tmp rfl) rfl (take_at xl rfl) xl) (Zq rfl (QW.move (.tmp rfl)) (Zq rfl (QW.add (.tmp rfl) .const (w64 (by omega))) ?_)))))))
      refine JL.callPF [.k, .k, .p] gofn42 rfl Lent.nil (fun _ => (.cons (.tmp rfl) (.cons (.tmp rfl) (.cons (.tmp rfl) .nil)))) (ih (Xc.self) (hwi _ (List.getElem_mem _)) (by omega) (by omega) (EX.sz_get hn hlt)) (.inl rfl) (fun k47 x47 o47 h47 => ?_) (fun k47 => ?_)
      rotate_left
      · skip
        refine blkQ.p (thenQ.p (thenQ.p (blkQ.p ?_)))
        rw [EX.chks_cons hlt, if_pos k47] at hcs
        have he := hck.trans hcs
        exact ⟨_, selP [.k, .k] _, _, rfl, rfl, sel_perm [.k, .k] _, PanR.of (by rw [he]) k47⟩
      obtain ⟨rfl, rfl⟩ := h47
      refine JL.nil (blkQ.n (thenQ.n (J.region_lit (Zq rfl (QW.add (.tmp rfl) .const (w64 (by omega))) (Zq rfl (QW.move (.tmp rfl)) (Zn ?_))))))
      have hb := EX.chk_bounds is[j] (lev + 1) q
      rw [EX.chks_cons hlt, if_neg (by simp [k47])] at hcs
      rw [EX.depths_cons hlt] at hde
      exact ⟨⟨j + 1, (EX.chk is[j] (lev + 1) q).2, max e (lev + 1 + is[j].depth - 1)⟩, ⟨hlt, hcs, by omega, by omega⟩, by show is.length - (j + 1) < is.length - j; omega, Wk.re (.cons rfl lr (.cons rfl lr (.cons rfl lr (.cons rfl lr (.cons rfl lr .nil))))) (Reown.dropN 1 _ rfl) (fun _ h => by first | exact h | simp [h])⟩
    have hge : is.length ≤ j := by simpa [EX.css_length] using c1
    refine J.exit (thenQ.x (thenQ.x (blkQ.hit ?_)))
    obtain rfl : j = is.length := by omega
    simp only [List.drop_length, EX.chks, EX.depths] at hcs hde
    have he := hck.trans hcs
    exact Zr [.k, .p] (RetEv.none rfl ) rfl (PanR.ret (by rw [he]) ⟨rfl, by rw [he]; unfold EX.depth; rw [show max d (lev + (1 + EX.depths is) - 1) = e by omega]; rfl⟩)
end Go.Proofs.YtjhonjdhanlbkaaGreat.J

