/- Walks: a value that is spoilt. -/
import Derived.Test.YtkiankpmkglhcaaV2
import Derived.Test.YtkiankpmkglhcaaWv6
namespace Go.Proofs.Ytkiankpmkglhcaa.J
open Go Go.RowKit
set_option linter.unusedVariables false
set_option linter.unusedSimpArgs false
set_option maxRecDepth 10000
set_option maxHeartbeats 4000000

theorem spoil_n  : ∀ (n : Nat) {v : V} {kv iv : Value} {ok oi : Own}, VTr v kv iv ok oi → v.wf → v.sz ≤ n → AC Try.prog 32 [ok, oi] [.agg (v.raw kv iv)] (RetR fun x o => x = .tup [] ∧ o = []) := by
  intro n
  induction n with
  | zero => intro v kv iv ok oi hV hw h; exact absurd h (by have := V.sz_pos v; omega)
  | succ n ih =>
    intro v kv iv ok oi hV hw hn
    obtain ⟨k, b, t, ks, is⟩ := v
    obtain ⟨-, -, -, hk16, hi80, -, hwi⟩ := hw.inv
    have hkl : ks.length ≤ 9223372036854775806 := by unfold reach at hk16; omega
    have hil : is.length ≤ 9223372036854775806 := by unfold reach at hi80; omega
    obtain ⟨ck, uk, o1, p1, p2, p3, p4, p5, p6⟩ := hV.ks.inv
    obtain ⟨ci, ui, o2, q1, q2, q3, q4, q5, q6⟩ := hV.is.inv
    simp only [V.keys, V.items, keysAV_length, V.css_length] at p2 q2 q5
    refine AC.of_J Try.func32 rfl Try.ntmps32 rfl fun w0 A0 => ?_
    refine J.seq ?_
    refine J.region_lit ?_
    refine JL.box_agg (.tmp rfl) rfl fun b1 => ?_
    refine JL.nil ?_
    refine thenQ.n ?_
    refine J.seq ?_
    refine J.seq ?_
    refine J.reown (Reown.cons (Reown.spoil p6 q6)) ?_
    refine J.region_lit ?_
    refine JL.q rfl rfl rfl (QW.assign .const) ?_
    refine JL.nil ?_
    refine thenQ.n ?_
    refine J.block ?_
    refine J.loopK (ι := Nat × List (List AV)) [1] (fun ⟨j, ck2⟩ => [(2, .c (.int .i64 (j : Int)))]) (fun ⟨j, ck2⟩ oo => List.set oo 1 (.arr kv eStr ck2)) (fun ⟨j, ck2⟩ => ck2.length = ck.length ∧ (∀ x ∈ ck2, x.length = 1)) (fun ⟨j, ck2⟩ => ck2.length - j) ⟨0, ck⟩ (⟨rfl, p3⟩) (Wk.re (.cons rfl (.refl _) (.cons rfl (.refl _) .nil)) (Reown.refl _) (fun _ h => by first | exact h | simp [h])) ?_
    intro ⟨j, ck2⟩ ⟨hcl, hc1⟩
    refine J.conv (by (try simp only [stepsO, List.map_cons, List.map_nil, valO, nthO, curO, mrg, List.reverse_cons, List.reverse_nil, List.nil_append, List.cons_append, List.append_nil, List.getElem?_cons_zero, List.getElem?_cons_succ, Option.map_some, Option.getD_some, List.set_cons_zero, List.set_cons_succ, AV.cellsOf, splice_zero, splice_succ, Nat.zero_add, Nat.reduceAdd]); rfl) ?_
    refine J.seq ?_
    refine J.seq ?_
    refine J.region_lit ?_
    refine JL.q rfl rfl rfl (QW.move (.tmp rfl)) ?_
    refine JL.q rfl rfl rfl (QW.field_ptr fo26_3 (.tmp rfl) rfl) ?_
    refine JL.q rfl rfl rfl (QW.load_box1 0 ty23 (.tmp rfl) rfl rfl) ?_
    refine JL.q rfl rfl rfl (QW.len_arr 1 sl23 (.tmp rfl) rfl) ?_
    refine JL.q rfl rfl rfl (QW.lss (.tmp rfl) (.tmp rfl)) ?_
    refine JL.nil ?_
    refine thenQ.n ?_
    refine J.cond (.tmp rfl) (fun c1 => ?_) (fun c1 => ?_)
    · skip
      have hlt : j < ck2.length := by simpa using c1
      refine J.skip ?_
      refine thenQ.n ?_
      refine J.seq ?_
      refine J.block ?_
      refine J.region_lit ?_
      refine JL.q rfl rfl rfl (QW.field_ptr fo26_3 (.tmp rfl) rfl) ?_
      refine JL.q rfl rfl rfl (QW.load_box1 0 ty23 (.tmp rfl) rfl rfl) ?_
      refine JL.q rfl rfl rfl (QW.move (.tmp rfl)) ?_
      refine JL.q rfl rfl rfl (QW.index_arr 1 sl23 ty9 rfl (.tmp rfl) rfl (.tmp rfl) (by first | rfl | omega | (simp; done)) (by exact hlt) rfl) ?_
      refine JL.store_gp 1 ty9 (.tmp rfl) rfl (List.getElem?_eq_getElem hlt) rfl .const rfl rfl rfl (congrArg (List.set _ _) (splice_all (by rw [hc1 _ (List.getElem_mem hlt)]; rfl))) rfl ?_
      refine JL.nil ?_
      refine blkQ.n ?_
      refine thenQ.n ?_
      refine J.region_lit ?_
      refine JL.q rfl rfl rfl (QW.move (.tmp rfl)) ?_
      refine JL.q rfl rfl rfl (QW.add (.tmp rfl) .const (by first | exact w64n (by first | rfl | omega | (simp; done)) (by omega) | exact w64 (by omega) | rfl)) ?_
      refine JL.q rfl rfl rfl (QW.assign (.tmp rfl)) ?_
      refine JL.nil ?_
      refine thenQ.n ?_
      exact ⟨⟨j + 1, ck2.set j [.c (str [115, 112, 111, 105, 108, 116])]⟩, ⟨by simp [hcl], fun x hx => (List.mem_or_eq_of_mem_set hx).elim (hc1 x) (fun h => by rw [h]; rfl)⟩, by simp; omega, Wk.re (.cons rfl (.refl _) (.cons rfl (.refl _) .nil)) (Reown.refl _) (fun _ h => by first | exact h | simp [h])⟩
    · skip
      skip
      refine J.exit ?_
      refine thenQ.x ?_
      refine thenQ.x ?_
      refine blkQ.hit ?_
      refine thenQ.n ?_
      refine J.seq ?_
      refine J.region_lit ?_
      refine JL.q rfl rfl rfl (QW.assign .const) ?_
      refine JL.nil ?_
      refine thenQ.n ?_
      refine J.block ?_
      refine J.loopK (ι := Nat × List (List AV) × List Value × Own) [1] (fun ⟨j, ci2, us, o⟩ => [(3, .c (.int .i64 (j : Int)))]) (fun ⟨j, ci2, us, o⟩ oo => List.set (List.set oo 2 (.arr iv eV ci2)) 3 (o)) (fun ⟨j, ci2, us, o⟩ => ci2.length = is.length ∧ (∀ x ∈ ci2, x.length = 5) ∧ (ci2.drop j).flatten = us.map AV.c ∧ us.all (·.oneCell') = true ∧ TrL (V.css true (is.drop j)).flatten us o) (fun ⟨j, ci2, us, o⟩ => is.length - j) ⟨0, ci, ui, o2⟩ (⟨q2, q3, q1, q4, q5⟩) (Wk.re (.cons rfl (.refl _) (.cons rfl (.refl _) .nil)) (Reown.refl _) (fun _ h => by first | exact h | simp [h])) ?_
      intro ⟨j, ci2, us, o⟩ ⟨hcl, hc5, hcf, hu1, hT⟩
      refine J.conv (by (try simp only [stepsO, List.map_cons, List.map_nil, valO, nthO, curO, mrg, List.reverse_cons, List.reverse_nil, List.nil_append, List.cons_append, List.append_nil, List.getElem?_cons_zero, List.getElem?_cons_succ, Option.map_some, Option.getD_some, List.set_cons_zero, List.set_cons_succ, AV.cellsOf, splice_zero, splice_succ, Nat.zero_add, Nat.reduceAdd]); rfl) ?_
      refine J.seq ?_
      refine J.seq ?_
      refine J.region_lit ?_
      refine JL.q rfl rfl rfl (QW.move (.tmp rfl)) ?_
      refine JL.q rfl rfl rfl (QW.field_ptr fo26_4 (.tmp rfl) rfl) ?_
      refine JL.q rfl rfl rfl (QW.load_box1 0 ty24 (.tmp rfl) rfl rfl) ?_
      refine JL.q rfl rfl rfl (QW.len_arr 2 sl24 (.tmp rfl) rfl) ?_
      refine JL.q rfl rfl rfl (QW.lss (.tmp rfl) (.tmp rfl)) ?_
      refine JL.nil ?_
      refine thenQ.n ?_
      refine J.cond (.tmp rfl) (fun c2 => ?_) (fun c2 => ?_)
      · skip
        have hlt : j < is.length := by (simp at c2; omega)
        refine J.skip ?_
        refine thenQ.n ?_
        refine J.seq ?_
        refine J.block ?_
        refine J.seq ?_
        obtain ⟨kv2, iv2, ok2, oi2, us2, o2, g1, hV2, g3, g4, g5, g6⟩ := kids_take hlt hcl hc5 hcf hu1 hT
        refine J.reown (Reown.cons (Reown.cons (Reown.cons g6))) ?_
        refine J.region_lit ?_
        refine JL.q rfl rfl rfl (QW.field_ptr fo26_4 (.tmp rfl) rfl) ?_
        refine JL.q rfl rfl rfl (QW.load_box1 0 ty24 (.tmp rfl) rfl rfl) ?_
        refine JL.q rfl rfl rfl (QW.move (.tmp rfl)) ?_
        refine JL.q rfl rfl rfl (QW.index_arr 2 sl24 ty26 rfl (.tmp rfl) rfl (.tmp rfl) (by first | rfl | omega | (simp; done)) (by omega) rfl) ?_
        refine JL.q rfl rfl rfl (by first | exact QW.load_gp 2 ty26 (.tmp rfl) rfl (by exact g1) rfl rfl rfl | exact QW.load_gp (o := 0) 2 ty26 (.tmp rfl) rfl (by exact g1) rfl rfl rfl | exact QW.load_gp 2 ty26 (.tmp rfl) rfl (by exact g1) rfl (take_full (V.cs_length _ _)) (V.cs_length _ _)) ?_
        refine JL.callRF [.k, .k, .k, .p, .p] gofn32 rfl Lent.nil (fun _ => (.cons (.tmp rfl) .nil)) (ih hV2 (hwi _ (List.getElem_mem _)) (V.sz_get hn hlt)) (.inl rfl) fun x27 o27 h27 => ?_
        obtain ⟨rfl, rfl⟩ := h27
        refine JL.nil ?_
        refine thenQ.n ?_
        refine J.region_lit ?_
        refine JL.q rfl rfl rfl (QW.field_ptr fo26_4 (.tmp rfl) rfl) ?_
        refine JL.q rfl rfl rfl (QW.load_box1 0 ty24 (.tmp rfl) rfl rfl) ?_
        refine JL.q rfl rfl rfl (QW.move (.tmp rfl)) ?_
        refine JL.q rfl rfl rfl (QW.build (idx := [0]) pl26 z26 rfl (.cons .const .nil) rfl rfl rfl rfl) ?_
        refine JL.q rfl rfl rfl (QW.index_arr 2 sl24 ty26 rfl (.tmp rfl) rfl (.tmp rfl) (by first | rfl | omega | (simp; done)) (by omega) rfl) ?_
        refine JL.store_gp 2 ty26 (.tmp rfl) rfl g1 rfl (.tmp rfl) rfl rfl rfl (congrArg (List.set _ _) (splice_all rfl)) rfl ?_
        refine JL.nil ?_
        refine blkQ.n ?_
        refine thenQ.n ?_
        refine J.region_lit ?_
        refine JL.q rfl rfl rfl (QW.move (.tmp rfl)) ?_
        refine JL.q rfl rfl rfl (QW.add (.tmp rfl) .const (by first | exact w64n (by first | rfl | omega | (simp; done)) (by omega) | exact w64 (by omega) | rfl)) ?_
        refine JL.q rfl rfl rfl (QW.assign (.tmp rfl)) ?_
        refine JL.nil ?_
        refine thenQ.n ?_
        exact ⟨⟨j + 1, ci2.set j [.c (.int .i64 (-1)), .c (.int .u64 0), .c (str []), .c (.slice none 0 0), .c (.slice none 0 0)], us2, o2⟩, ⟨by simp [hcl], fun x hx => (List.mem_or_eq_of_mem_set hx).elim (hc5 x) (fun h => by rw [h]; rfl), by rw [List.drop_set_of_lt (by omega)]; exact g3, g4, g5⟩, by simp; omega, Wk.re (.cons rfl (.refl _) (.cons rfl (.refl _) .nil)) (Reown.refl _) (fun _ h => by first | exact h | simp [h])⟩
      · skip
        skip
        refine J.exit ?_
        refine thenQ.x ?_
        refine thenQ.x ?_
        refine blkQ.hit ?_
        exact ⟨_, selP [.k, .k, .k, .k] _, _, RetEv.none rfl , rfl, sel_perm [.k, .k, .k, .k] _, ⟨_, rfl, rfl, rfl⟩⟩

theorem spoil_ok {v : V} {kv iv : Value} {ok oi : Own} (hV : VTr v kv iv ok oi) (hw : v.wf) : AC Try.prog 32 [ok, oi] [.agg (v.raw kv iv)] (RetR fun x o => x = .tup [] ∧ o = []) := spoil_n _ hV hw (Nat.le_refl _)

end Go.Proofs.Ytkiankpmkglhcaa.J
