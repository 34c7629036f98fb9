/- Texts of this proof, laid together. -/
import Derived.Test.YtjhonjdhanlbkaaGreatX4REvalLists
set_option linter.unusedVariables false
set_option linter.unusedSimpArgs false
/- Walks: orders of numbers, texts, lists. -/
namespace Go.Proofs.YtjhonjdhanlbkaaGreat.J
open Go Go.RowKit
set_option maxRecDepth 10000
set_option maxHeartbeats 4000000
theorem cmpI_ok (a b : Int) : Fn Tryz.prog 122 [.c (.int .i64 a), .c (.int .i64 b)] (.c (.int .i64 (cmpI a b))) := cmpInt_ok a b
theorem cmpK_drop {a b : List Str} {k : Nat} (ha : k < a.length) (hb : k < b.length) : cmpK (a.drop k) (b.drop k) = orI (cmpS a[k] b[k]) (cmpK (a.drop (k + 1)) (b.drop (k + 1))) := by
  rw [List.drop_eq_getElem_cons ha, List.drop_eq_getElem_cons hb, cmpK]
theorem cmpK_gt {a b : List Str} {k : Nat} (ha : k < a.length) (hb : b.length ≤ k) : cmpK (a.drop k) (b.drop k) = 1 := by
  rw [List.drop_eq_getElem_cons ha, List.drop_of_length_le hb, cmpK]
theorem cmpK_lt {a b : List Str} {k : Nat} (ha : a.length ≤ k) (hb : k < b.length) : cmpK (a.drop k) (b.drop k) = -1 := by
  rw [List.drop_eq_getElem_cons hb, List.drop_of_length_le ha, cmpK]
theorem cmpK_eq {a b : List Str} {k : Nat} (ha : a.length ≤ k) (hb : b.length ≤ k) : cmpK (a.drop k) (b.drop k) = 0 := by
  rw [List.drop_of_length_le hb, List.drop_of_length_le ha, cmpK]
theorem ords_drop {a b : List V} {k : Nat} (ha : k < a.length) (hb : k < b.length) : V.ords (a.drop k) (b.drop k) = orI (a[k].ord b[k]) (V.ords (a.drop (k + 1)) (b.drop (k + 1))) := by
  rw [List.drop_eq_getElem_cons ha, List.drop_eq_getElem_cons hb, V.ords]
theorem ords_gt {a b : List V} {k : Nat} (ha : k < a.length) (hb : b.length ≤ k) : V.ords (a.drop k) (b.drop k) = 1 := by
  rw [List.drop_eq_getElem_cons ha, List.drop_of_length_le hb, V.ords]
theorem ords_lt {a b : List V} {k : Nat} (ha : a.length ≤ k) (hb : k < b.length) : V.ords (a.drop k) (b.drop k) = -1 := by
  rw [List.drop_eq_getElem_cons hb, List.drop_of_length_le ha, V.ords]
theorem ords_eq {a b : List V} {k : Nat} (ha : a.length ≤ k) (hb : b.length ≤ k) : V.ords (a.drop k) (b.drop k) = 0 := by
  rw [List.drop_of_length_le hb, List.drop_of_length_le ha, V.ords]
theorem orI_n {a b : Int} (h : a ≠ 0) : orI a b = a := if_pos h
theorem orI_z {b : Int} : orI 0 b = b := if_neg (fun h => h rfl)
def orL : List Int → Int
  | [] => 0
  | x :: r => orI x (orL r)
theorem orL_drop {l : List Int} {k : Nat} (h : k < l.length) : orL (l.drop k) = orI l[k] (orL (l.drop (k + 1))) := by
  rw [List.drop_eq_getElem_cons h, orL]
theorem orL_end {l : List Int} {k : Nat} (h : l.length ≤ k) : orL (l.drop k) = 0 := by rw [List.drop_of_length_le h, orL]
theorem orL_one (a : Int) : orL [a] = a := by simp only [orL, orI]; split <;> omega
theorem nanU_ok (n : Int) : Fn Tryz.prog 144 [.c (.int .u64 n)] (.c (.bool false)) := by
  refine AC.of_J Tryz.func144 rfl Tryz.ntmps144 rfl fun w0 A0 => ?_
  refine J.seq ?_
  refine J.region_lit ?_
  refine JL.q rfl rfl rfl (QW.assign .const) ?_
  refine JL.nil ?_
  refine thenQ.n ?_
  refine J.seq ?_
  refine J.region_lit ?_
  refine JL.q rfl rfl rfl (QW.move (.tmp rfl)) ?_
  refine JL.q rfl rfl rfl (QW.move (.tmp rfl)) ?_
  refine JL.q rfl rfl rfl (QW.neq (.tmp rfl) (.tmp rfl)) ?_
  refine JL.q rfl rfl rfl (QW.assign (.tmp rfl)) ?_
  refine JL.nil ?_
  refine thenQ.n ?_
  refine J.ret ?_
  exact ⟨_, selP [] _, _, RetEv.one rfl (REv.tmp rfl (.refl _)), rfl, sel_perm [] _, ⟨ret_b (by simp), rfl⟩⟩
theorem cmpU_ok (a b : Int) : Fn Tryz.prog 125 [.c (.int .u64 a), .c (.int .u64 b)] (.c (.int .i64 (cmpI a b))) := by
  refine AC.of_J Tryz.func125 rfl Tryz.ntmps125 rfl fun w0 A0 => ?_
  refine J.seq ?_
  refine J.region_lit ?_
  refine JL.q rfl rfl rfl (QW.assign .const) ?_
  refine JL.nil ?_
  refine thenQ.n ?_
  refine J.seq ?_
  refine J.region_lit ?_
  refine JL.q rfl rfl rfl (QW.move (.tmp rfl)) ?_
  refine JL.q rfl rfl rfl (QW.call gofn144 (.cons (.tmp rfl) .nil) (nanU_ok _)) ?_
  refine JL.q rfl rfl rfl (QW.assign (.tmp rfl)) ?_
  refine JL.nil ?_
  refine thenQ.n ?_
  refine J.seq ?_
  refine J.region_lit ?_
  refine JL.q rfl rfl rfl (QW.move (.tmp rfl)) ?_
  refine JL.q rfl rfl rfl (QW.call gofn144 (.cons (.tmp rfl) .nil) (nanU_ok _)) ?_
  refine JL.q rfl rfl rfl (QW.assign (.tmp rfl)) ?_
  refine JL.nil ?_
  refine thenQ.n ?_
  refine J.seq ?_
  refine J.seq ?_
  refine J.region_lit ?_
  refine JL.q rfl rfl rfl (QW.move (.tmp rfl)) ?_
  refine JL.nil ?_
  refine thenQ.n ?_
  refine J.cond (.tmp rfl) (fun c1 => absurd c1 (by simp)) (fun c1 => ?_)
  refine J.skip ?_
  refine thenQ.n ?_
  refine J.seq ?_
  refine J.seq ?_
  refine J.region_lit ?_
  refine JL.q rfl rfl rfl (QW.move (.tmp rfl)) ?_
  refine JL.nil ?_
  refine thenQ.n ?_
  refine J.cond (.tmp rfl) (fun c2 => absurd c2 (by simp)) (fun c2 => ?_)
  refine J.skip ?_
  refine thenQ.n ?_
  refine J.seq ?_
  refine J.seq ?_
  refine J.region_lit ?_
  refine JL.q rfl rfl rfl (QW.move (.tmp rfl)) ?_
  refine JL.q rfl rfl rfl (QW.move (.tmp rfl)) ?_
  refine JL.q rfl rfl rfl (QW.lss (.tmp rfl) (.tmp rfl)) ?_
  refine JL.nil ?_
  refine thenQ.n ?_
  refine J.cond (.tmp rfl) (fun c3 => ?_) (fun c3 => ?_)
  · skip
    simp at c3
    refine J.seq ?_
    refine J.region_lit ?_
    refine JL.q rfl rfl rfl (QW.assign .const) ?_
    refine JL.nil ?_
    refine thenQ.n ?_
    refine J.ret ?_
    refine thenQ.r ?_
    exact ⟨_, selP [] _, _, RetEv.one rfl (REv.tmp rfl (.refl _)), rfl, sel_perm [] _, ⟨by rw [show cmpI a b = -1 from if_pos c3], rfl⟩⟩
  simp at c3
  refine J.skip ?_
  refine thenQ.n ?_
  refine J.seq ?_
  refine J.seq ?_
  refine J.region_lit ?_
  refine JL.q rfl rfl rfl (QW.move (.tmp rfl)) ?_
  refine JL.q rfl rfl rfl (QW.move (.tmp rfl)) ?_
  refine JL.q rfl rfl rfl (QW.gtr (.tmp rfl) (.tmp rfl)) ?_
  refine JL.nil ?_
  refine thenQ.n ?_
  refine J.cond (.tmp rfl) (fun c4 => ?_) (fun c4 => ?_)
  · skip
    simp at c4
    refine J.seq ?_
    refine J.region_lit ?_
    refine JL.q rfl rfl rfl (QW.assign .const) ?_
    refine JL.nil ?_
    refine thenQ.n ?_
    refine J.ret ?_
    refine thenQ.r ?_
    exact ⟨_, selP [] _, _, RetEv.one rfl (REv.tmp rfl (.refl _)), rfl, sel_perm [] _, ⟨by rw [show cmpI a b = 1 by unfold cmpI; rw [if_neg (by omega), if_pos (by omega)]], rfl⟩⟩
  simp at c4
  refine J.skip ?_
  refine thenQ.n ?_
  refine J.seq ?_
  refine J.region_lit ?_
  refine JL.q rfl rfl rfl (QW.assign .const) ?_
  refine JL.nil ?_
  refine thenQ.n ?_
  refine J.ret ?_
  exact ⟨_, selP [] _, _, RetEv.one rfl (REv.tmp rfl (.refl _)), rfl, sel_perm [] _, ⟨by rw [show cmpI a b = 0 by unfold cmpI; rw [if_neg (by omega), if_neg (by omega)]], rfl⟩⟩
theorem cmpStr_ok (a b : Str) : Fn Tryz.prog 126 [.c (str a), .c (str b)] (.c (.int .i64 (cmpS a b))) := by
  refine AC.of_J Tryz.func126 rfl Tryz.ntmps126 rfl fun w0 A0 => ?_
  refine J.seq ?_
  refine J.region_lit ?_
  refine JL.q rfl rfl rfl (QW.assign .const) ?_
  refine JL.nil ?_
  refine thenQ.n ?_
  refine J.seq ?_
  refine J.region_lit ?_
  refine JL.q rfl rfl rfl (QW.move (.tmp rfl)) ?_
  refine JL.q rfl rfl rfl (QW.call gofn145 (.cons (.tmp rfl) .nil) (cnanStr_ok _)) ?_
  refine JL.q rfl rfl rfl (QW.assign (.tmp rfl)) ?_
  refine JL.nil ?_
  refine thenQ.n ?_
  refine J.seq ?_
  refine J.region_lit ?_
  refine JL.q rfl rfl rfl (QW.move (.tmp rfl)) ?_
  refine JL.q rfl rfl rfl (QW.call gofn145 (.cons (.tmp rfl) .nil) (cnanStr_ok _)) ?_
  refine JL.q rfl rfl rfl (QW.assign (.tmp rfl)) ?_
  refine JL.nil ?_
  refine thenQ.n ?_
  refine J.seq ?_
  refine J.seq ?_
  refine J.region_lit ?_
  refine JL.q rfl rfl rfl (QW.move (.tmp rfl)) ?_
  refine JL.nil ?_
  refine thenQ.n ?_
  refine J.cond (.tmp rfl) (fun c1 => absurd c1 (by simp)) (fun c1 => ?_)
  refine J.skip ?_
  refine thenQ.n ?_
  refine J.seq ?_
  refine J.seq ?_
  refine J.region_lit ?_
  refine JL.q rfl rfl rfl (QW.move (.tmp rfl)) ?_
  refine JL.nil ?_
  refine thenQ.n ?_
  refine J.cond (.tmp rfl) (fun c2 => absurd c2 (by simp)) (fun c2 => ?_)
  refine J.skip ?_
  refine thenQ.n ?_
  refine J.seq ?_
  refine J.seq ?_
  refine J.region_lit ?_
  refine JL.q rfl rfl rfl (QW.move (.tmp rfl)) ?_
  refine JL.q rfl rfl rfl (QW.move (.tmp rfl)) ?_
  refine JL.q rfl rfl rfl (QW.lss_s (.tmp rfl) (.tmp rfl)) ?_
  refine JL.nil ?_
  refine thenQ.n ?_
  refine J.cond (.tmp rfl) (fun c3 => ?_) (fun c3 => ?_)
  · skip
    refine J.seq ?_
    refine J.region_lit ?_
    refine JL.q rfl rfl rfl (QW.assign .const) ?_
    refine JL.nil ?_
    refine thenQ.n ?_
    refine J.ret ?_
    refine thenQ.r ?_
    exact ⟨_, selP [] _, _, RetEv.one rfl (REv.tmp rfl (.refl _)), rfl, sel_perm [] _, ⟨by simp [cmpS, c3], rfl⟩⟩
  refine J.skip ?_
  refine thenQ.n ?_
  refine J.seq ?_
  refine J.seq ?_
  refine J.region_lit ?_
  refine JL.q rfl rfl rfl (QW.move (.tmp rfl)) ?_
  refine JL.q rfl rfl rfl (QW.move (.tmp rfl)) ?_
  refine JL.q rfl rfl rfl (QW.gtr_s (.tmp rfl) (.tmp rfl)) ?_
  refine JL.nil ?_
  refine thenQ.n ?_
  refine J.cond (.tmp rfl) (fun c4 => ?_) (fun c4 => ?_)
  · skip
    refine J.seq ?_
    refine J.region_lit ?_
    refine JL.q rfl rfl rfl (QW.assign .const) ?_
    refine JL.nil ?_
    refine thenQ.n ?_
    refine J.ret ?_
    refine thenQ.r ?_
    exact ⟨_, selP [] _, _, RetEv.one rfl (REv.tmp rfl (.refl _)), rfl, sel_perm [] _, ⟨by rw [gtr_less] at c4; simp [cmpS, c3, c4], rfl⟩⟩
  refine J.skip ?_
  refine thenQ.n ?_
  refine J.seq ?_
  refine J.region_lit ?_
  refine JL.q rfl rfl rfl (QW.assign .const) ?_
  refine JL.nil ?_
  refine thenQ.n ?_
  refine J.ret ?_
  exact ⟨_, selP [] _, _, RetEv.one rfl (REv.tmp rfl (.refl _)), rfl, sel_perm [] _, ⟨by rw [gtr_less] at c4; simp [cmpS, c3, c4], rfl⟩⟩
theorem or_ok {fr c : Bool} (l : List Int) (hl : l.length ≤ 1000) : Fn Tryz.prog 124 [.sl fr c eI64 (intsAV l)] (.c (.int .i64 (orL l))) := by
  refine AC.of_J Tryz.func124 rfl Tryz.ntmps124 rfl fun w0 A0 => ?_
  refine J.seq ?_
  refine J.region_lit ?_
  refine JL.q rfl rfl rfl (QW.assign .const) ?_
  refine JL.nil ?_
  refine thenQ.n ?_
  refine J.seq ?_
  refine J.region_lit ?_
  refine JL.q rfl rfl rfl (QW.assign .const) ?_
  refine JL.nil ?_
  refine thenQ.n ?_
  refine J.seq ?_
  refine J.seq ?_
  refine J.region_lit ?_
  refine JL.q rfl rfl rfl (QW.move (.tmp rfl)) ?_
  refine JL.q rfl rfl rfl (by first | exact QW.len_slE sl130 (.tmp rfl) (keysAV_length _) | exact QW.len_slE sl130 (.tmp rfl) (V.css_length _ _) | exact QW.len_slE sl130 (.tmp rfl) (intsAV_length _) | exact QW.len_sl sl130 (.tmp rfl) | exact QW.len_nil sl130 (.tmp rfl)) ?_
  refine JL.q rfl rfl rfl (QW.move .const) ?_
  refine JL.nil ?_
  refine thenQ.n ?_
  refine J.block ?_
  refine J.loopK (ι := Nat) [3, 6, 7] (fun k => [(8, .c (.int .i64 (k : Int)))]) (fun _ oo => oo) (fun k => k ≤ l.length ∧ orL l = orL (l.drop k)) (fun k => l.length - k) 0 (⟨Nat.zero_le _, rfl⟩) (Wk.re (.cons rfl (.refl _) (.cons rfl (.refl _) (.cons rfl (.refl _) (.cons rfl (.refl _) .nil)))) (Reown.refl _) (fun _ h => by first | exact h | simp [h])) ?_
  intro k ⟨hk, hs⟩
  refine J.conv (by (try simp only [id_eq, stepsO, List.map_cons, List.map_nil, valO, nthO, curO, mrg, List.reverse_cons, List.reverse_nil, List.nil_append, List.cons_append, List.append_nil, List.getElem?_cons_zero, List.getElem?_cons_succ, Option.map_some, Option.getD_some, List.set_cons_zero, List.set_cons_succ, AV.cellsOf, splice_zero, splice_succ, Nat.zero_add, Nat.reduceAdd]); rfl) ?_
  refine J.seq ?_
  refine J.region_lit ?_
  refine JL.q rfl rfl rfl (QW.lss (.tmp rfl) (.tmp rfl)) ?_
  refine JL.nil ?_
  refine thenQ.n ?_
  refine J.seq ?_
  refine J.cond (.tmp rfl) (fun c1 => ?_) (fun c1 => ?_)
  · skip
    have hlt : k < l.length := by simpa using c1
    refine J.skip ?_
    refine thenQ.n ?_
    refine J.seq ?_
    refine J.block ?_
    refine J.seq ?_
    refine J.region_lit ?_
    refine JL.q rfl rfl rfl (QW.index_sl sl130 ty3 rfl (.tmp rfl) (.tmp rfl) (by first | rfl | omega | (simp; done)) (by exact intsAV_getE hlt)) ?_
    refine JL.q rfl rfl rfl (QW.load_ref1 ty3 (.tmp rfl) rfl) ?_
    refine JL.q rfl rfl rfl (QW.assign (.tmp rfl)) ?_
    refine JL.nil ?_
    refine thenQ.n ?_
    refine J.seq ?_
    refine J.region_lit ?_
    refine JL.q rfl rfl rfl (QW.move (.tmp rfl)) ?_
    refine JL.q rfl rfl rfl (QW.move (.tmp rfl)) ?_
    refine JL.q rfl rfl rfl (QW.neq (.tmp rfl) (.tmp rfl)) ?_
    refine JL.nil ?_
    refine thenQ.n ?_
    refine J.cond (.tmp rfl) (fun c2 => ?_) (fun c2 => ?_)
    · skip
      have hz : l[k]'hlt ≠ 0 := by simpa using c2
      refine J.seq ?_
      refine J.region_lit ?_
      refine JL.q rfl rfl rfl (QW.move (.tmp rfl)) ?_
      refine JL.q rfl rfl rfl (QW.assign (.tmp rfl)) ?_
      refine JL.nil ?_
      refine thenQ.n ?_
      refine J.ret ?_
      refine blkQ.r ?_
      refine thenQ.r ?_
      refine thenQ.r ?_
      refine blkQ.r ?_
      refine thenQ.r ?_
      exact ⟨_, selP [] _, _, RetEv.one rfl (REv.tmp rfl (.refl _)), rfl, sel_perm [] _, ⟨by rw [hs, orL_drop hlt, orI_n hz], rfl⟩⟩
    have hz : l[k]'hlt = 0 := by simpa using c2
    refine J.skip ?_
    refine blkQ.n ?_
    refine thenQ.n ?_
    refine J.region_lit ?_
    refine JL.q rfl rfl rfl (QW.add (.tmp rfl) .const (by first | exact w64n (by first | rfl | omega | (simp; done)) (by omega) | exact w64 (by omega) | rfl)) ?_
    refine JL.q rfl rfl rfl (QW.move (.tmp rfl)) ?_
    refine JL.nil ?_
    refine thenQ.n ?_
    exact ⟨k + 1, ⟨hlt, by rw [hs, orL_drop hlt, hz, orI_z]⟩, by omega, Wk.re (.cons rfl (.refl _) (.cons rfl (.refl _) (.cons rfl (.refl _) (.cons rfl (.refl _) .nil)))) (Reown.refl _) (fun _ h => by first | exact h | simp [h])⟩
  have hge : l.length ≤ k := by simpa using c1
  refine J.exit ?_
  refine thenQ.x ?_
  refine thenQ.x ?_
  refine blkQ.hit ?_
  refine thenQ.n ?_
  refine J.seq ?_
  refine J.region_lit ?_
  refine JL.q rfl rfl rfl (QW.move (.tmp rfl)) ?_
  refine JL.q rfl rfl rfl (QW.assign (.tmp rfl)) ?_
  refine JL.nil ?_
  refine thenQ.n ?_
  refine J.ret ?_
  exact ⟨_, selP [] _, _, RetEv.one rfl (REv.tmp rfl (.refl _)), rfl, sel_perm [] _, ⟨by rw [hs, orL_end hge], rfl⟩⟩
theorem cmpKeys_ok {fr fr2 cl cl2 : Bool} (a b : List Str) (ha : a.length ≤ 8796093022208) (hb : b.length ≤ 8796093022208) : Fn Tryz.prog 127 [.sl fr cl eStr (keysAV a), .sl fr2 cl2 eStr (keysAV b)] (.c (.int .i64 (cmpK a b))) := by
  refine AC.of_J Tryz.func127 rfl Tryz.ntmps127 rfl fun w0 A0 => ?_
  refine J.seq ?_
  refine J.region_lit ?_
  refine JL.q rfl rfl rfl (QW.assign .const) ?_
  refine JL.nil ?_
  refine thenQ.n ?_
  refine J.seq ?_
  refine J.seq ?_
  refine J.region_lit ?_
  refine JL.q rfl rfl rfl (QW.move (.tmp rfl)) ?_
  refine JL.q rfl rfl rfl (by first | exact QW.len_slE sl26 (.tmp rfl) (keysAV_length _) | exact QW.len_slE sl26 (.tmp rfl) (V.css_length _ _) | exact QW.len_slE sl26 (.tmp rfl) (intsAV_length _) | exact QW.len_sl sl26 (.tmp rfl) | exact QW.len_nil sl26 (.tmp rfl)) ?_
  refine JL.q rfl rfl rfl (QW.move .const) ?_
  refine JL.nil ?_
  refine thenQ.n ?_
  refine J.block ?_
  refine J.loopK (ι := Nat) [0, 1, 9, 10] (fun k => [(11, .c (.int .i64 (k : Int)))]) (fun _ oo => oo) (fun k => k ≤ a.length ∧ k ≤ b.length ∧ cmpK a b = cmpK (a.drop k) (b.drop k)) (fun k => a.length - k) 0 (⟨Nat.zero_le _, Nat.zero_le _, rfl⟩) (Wk.re (.cons rfl (.refl _) (.cons rfl (.refl _) (.cons rfl (.refl _) (.cons rfl (.refl _) (.cons rfl (.refl _) .nil))))) (Reown.refl _) (fun _ h => by first | exact h | simp [h])) ?_
  intro k ⟨hk, hk2, hs⟩
  refine J.conv (by (try simp only [id_eq, stepsO, List.map_cons, List.map_nil, valO, nthO, curO, mrg, List.reverse_cons, List.reverse_nil, List.nil_append, List.cons_append, List.append_nil, List.getElem?_cons_zero, List.getElem?_cons_succ, Option.map_some, Option.getD_some, List.set_cons_zero, List.set_cons_succ, AV.cellsOf, splice_zero, splice_succ, Nat.zero_add, Nat.reduceAdd]); rfl) ?_
  refine J.seq ?_
  refine J.region_lit ?_
  refine JL.q rfl rfl rfl (QW.lss (.tmp rfl) (.tmp rfl)) ?_
  refine JL.nil ?_
  refine thenQ.n ?_
  refine J.seq ?_
  refine J.cond (.tmp rfl) (fun c1 => ?_) (fun c1 => ?_)
  · skip
    have hlt : k < a.length := by simpa using c1
    refine J.skip ?_
    refine thenQ.n ?_
    refine J.seq ?_
    refine J.block ?_
    refine J.seq ?_
    refine J.region_lit ?_
    refine JL.q rfl rfl rfl (QW.move (.tmp rfl)) ?_
    refine JL.q rfl rfl rfl (QW.index_sl sl26 ty9 rfl (.tmp rfl) (.tmp rfl) (by first | rfl | omega | (simp; done)) (by first | exact keysAV_getE hlt | exact keysAV_getE hlt2)) ?_
    refine JL.q rfl rfl rfl (QW.load_ref1 ty9 (.tmp rfl) rfl) ?_
    refine JL.q rfl rfl rfl (QW.assign (.tmp rfl)) ?_
    refine JL.q rfl rfl rfl (QW.assign (.tmp rfl)) ?_
    refine JL.nil ?_
    refine thenQ.n ?_
    refine J.seq ?_
    refine J.seq ?_
    refine J.region_lit ?_
    refine JL.q rfl rfl rfl (QW.move (.tmp rfl)) ?_
    refine JL.q rfl rfl rfl (QW.move (.tmp rfl)) ?_
    refine JL.q rfl rfl rfl (by first | exact QW.len_slE sl26 (.tmp rfl) (keysAV_length _) | exact QW.len_slE sl26 (.tmp rfl) (V.css_length _ _) | exact QW.len_slE sl26 (.tmp rfl) (intsAV_length _) | exact QW.len_sl sl26 (.tmp rfl) | exact QW.len_nil sl26 (.tmp rfl)) ?_
    refine JL.q rfl rfl rfl (QW.geq (.tmp rfl) (.tmp rfl)) ?_
    refine JL.nil ?_
    refine thenQ.n ?_
    refine J.cond (.tmp rfl) (fun c2 => ?_) (fun c2 => ?_)
    · skip
      have hg2 : b.length ≤ k := by simpa using c2
      refine J.seq ?_
      refine J.region_lit ?_
      refine JL.q rfl rfl rfl (QW.assign .const) ?_
      refine JL.nil ?_
      refine thenQ.n ?_
      refine J.ret ?_
      refine thenQ.r ?_
      refine blkQ.r ?_
      refine thenQ.r ?_
      refine thenQ.r ?_
      refine blkQ.r ?_
      refine thenQ.r ?_
      exact ⟨_, selP [] _, _, RetEv.one rfl (REv.tmp rfl (.refl _)), rfl, sel_perm [] _, ⟨by rw [hs, cmpK_gt hlt hg2], rfl⟩⟩
    have hlt2 : k < b.length := by simpa using c2
    refine J.skip ?_
    refine thenQ.n ?_
    refine J.seq ?_
    refine J.region_lit ?_
    refine JL.q rfl rfl rfl (QW.move (.tmp rfl)) ?_
    refine JL.q rfl rfl rfl (QW.move (.tmp rfl)) ?_
    refine JL.q rfl rfl rfl (QW.index_sl sl26 ty9 rfl (.tmp rfl) (.tmp rfl) (by first | rfl | omega | (simp; done)) (by first | exact keysAV_getE hlt | exact keysAV_getE hlt2)) ?_
    refine JL.q rfl rfl rfl (QW.load_ref1 ty9 (.tmp rfl) rfl) ?_
    refine JL.q rfl rfl rfl (QW.assign (.tmp rfl)) ?_
    refine JL.nil ?_
    refine thenQ.n ?_
    refine J.seq ?_
    refine J.region_lit ?_
    refine JL.q rfl rfl rfl (QW.move (.tmp rfl)) ?_
    refine JL.q rfl rfl rfl (QW.move (.tmp rfl)) ?_
    refine JL.q rfl rfl rfl (QW.call gofn126 (.cons (.tmp rfl) (.cons (.tmp rfl) .nil)) (cmpStr_ok _ _)) ?_
    refine JL.q rfl rfl rfl (QW.assign (.tmp rfl)) ?_
    refine JL.nil ?_
    refine thenQ.n ?_
    refine J.seq ?_
    refine J.region_lit ?_
    refine JL.q rfl rfl rfl (QW.move (.tmp rfl)) ?_
    refine JL.q rfl rfl rfl (QW.neq (.tmp rfl) .const) ?_
    refine JL.nil ?_
    refine thenQ.n ?_
    refine J.cond (.tmp rfl) (fun c3 => ?_) (fun c3 => ?_)
    · skip
      have hz : cmpS (a[k]'hlt) (b[k]'hlt2) ≠ 0 := by simpa using c3
      refine J.seq ?_
      refine J.region_lit ?_
      refine JL.q rfl rfl rfl (QW.move (.tmp rfl)) ?_
      refine JL.q rfl rfl rfl (QW.assign (.tmp rfl)) ?_
      refine JL.nil ?_
      refine thenQ.n ?_
      refine J.ret ?_
      refine blkQ.r ?_
      refine thenQ.r ?_
      refine thenQ.r ?_
      refine blkQ.r ?_
      refine thenQ.r ?_
      exact ⟨_, selP [] _, _, RetEv.one rfl (REv.tmp rfl (.refl _)), rfl, sel_perm [] _, ⟨by rw [hs, cmpK_drop hlt hlt2, orI_n hz], rfl⟩⟩
    have hz : cmpS (a[k]'hlt) (b[k]'hlt2) = 0 := by simpa using c3
    refine J.skip ?_
    refine blkQ.n ?_
    refine thenQ.n ?_
    refine J.region_lit ?_
    refine JL.q rfl rfl rfl (QW.add (.tmp rfl) .const (by first | exact w64n (by first | rfl | omega | (simp; done)) (by omega) | exact w64 (by omega) | rfl)) ?_
    refine JL.q rfl rfl rfl (QW.move (.tmp rfl)) ?_
    refine JL.nil ?_
    refine thenQ.n ?_
    exact ⟨k + 1, ⟨hlt, hlt2, by rw [hs, cmpK_drop hlt hlt2, hz, orI_z]⟩, by omega, Wk.re (.cons rfl (.refl _) (.cons rfl (.refl _) (.cons rfl (.refl _) (.cons rfl (.refl _) (.cons rfl (.refl _) .nil))))) (Reown.refl _) (fun _ h => by first | exact h | simp [h])⟩
  have hge : a.length ≤ k := by simpa using c1
  refine J.exit ?_
  refine thenQ.x ?_
  refine thenQ.x ?_
  refine blkQ.hit ?_
  refine thenQ.n ?_
  refine J.seq ?_
  refine J.seq ?_
  refine J.region_lit ?_
  refine JL.q rfl rfl rfl (QW.move (.tmp rfl)) ?_
  refine JL.q rfl rfl rfl (by first | exact QW.len_slE sl26 (.tmp rfl) (keysAV_length _) | exact QW.len_slE sl26 (.tmp rfl) (V.css_length _ _) | exact QW.len_slE sl26 (.tmp rfl) (intsAV_length _) | exact QW.len_sl sl26 (.tmp rfl) | exact QW.len_nil sl26 (.tmp rfl)) ?_
  refine JL.q rfl rfl rfl (QW.move (.tmp rfl)) ?_
  refine JL.q rfl rfl rfl (by first | exact QW.len_slE sl26 (.tmp rfl) (keysAV_length _) | exact QW.len_slE sl26 (.tmp rfl) (V.css_length _ _) | exact QW.len_slE sl26 (.tmp rfl) (intsAV_length _) | exact QW.len_sl sl26 (.tmp rfl) | exact QW.len_nil sl26 (.tmp rfl)) ?_
  refine JL.q rfl rfl rfl (QW.lss (.tmp rfl) (.tmp rfl)) ?_
  refine JL.nil ?_
  refine thenQ.n ?_
  refine J.cond (.tmp rfl) (fun c2 => ?_) (fun c2 => ?_)
  · skip
    have hx : a.length < b.length := by simpa using c2
    refine J.seq ?_
    refine J.region_lit ?_
    refine JL.q rfl rfl rfl (QW.assign .const) ?_
    refine JL.nil ?_
    refine thenQ.n ?_
    refine J.ret ?_
    refine thenQ.r ?_
    exact ⟨_, selP [] _, _, RetEv.one rfl (REv.tmp rfl (.refl _)), rfl, sel_perm [] _, ⟨by rw [hs, cmpK_lt hge (by omega)], rfl⟩⟩
  have hx : b.length ≤ a.length := by simpa using c2
  refine J.skip ?_
  refine thenQ.n ?_
  refine J.seq ?_
  refine J.region_lit ?_
  refine JL.q rfl rfl rfl (QW.assign .const) ?_
  refine JL.nil ?_
  refine thenQ.n ?_
  refine J.ret ?_
  exact ⟨_, selP [] _, _, RetEv.one rfl (REv.tmp rfl (.refl _)), rfl, sel_perm [] _, ⟨by rw [hs, cmpK_eq hge (by omega)], rfl⟩⟩
theorem cmpVals_ok {fr fr2 cl cl2 : Bool} (a b : List V) (ha : a.length ≤ 8796093022208) (hb : b.length ≤ 8796093022208) (ih : ∀ x ∈ a, ∀ y ∈ b, Fn Tryz.prog 99 [.agg (x.cs fr), .agg (y.cs fr2)] (.c (.int .i64 (x.ord y)))) : Fn Tryz.prog 128 [.sl fr cl eV (V.css fr a), .sl fr2 cl2 eV (V.css fr2 b), .c (.func (.func 99) #[] #[])] (.c (.int .i64 (V.ords a b))) := by
  refine AC.of_J Tryz.func128 rfl Tryz.ntmps128 rfl fun w0 A0 => ?_
  refine J.seq ?_
  refine J.region_lit ?_
  refine JL.q rfl rfl rfl (QW.assign .const) ?_
  refine JL.nil ?_
  refine thenQ.n ?_
  refine J.seq ?_
  refine J.seq ?_
  refine J.region_lit ?_
  refine JL.q rfl rfl rfl (QW.move (.tmp rfl)) ?_
  refine JL.q rfl rfl rfl (by first | exact QW.len_slE sl27 (.tmp rfl) (keysAV_length _) | exact QW.len_slE sl27 (.tmp rfl) (V.css_length _ _) | exact QW.len_slE sl27 (.tmp rfl) (intsAV_length _) | exact QW.len_sl sl27 (.tmp rfl) | exact QW.len_nil sl27 (.tmp rfl)) ?_
  refine JL.q rfl rfl rfl (QW.move .const) ?_
  refine JL.nil ?_
  refine thenQ.n ?_
  refine J.block ?_
  refine J.loopK (ι := Nat) [0, 1, 2, 11, 12] (fun k => [(13, .c (.int .i64 (k : Int)))]) (fun _ oo => oo) (fun k => k ≤ a.length ∧ k ≤ b.length ∧ V.ords a b = V.ords (a.drop k) (b.drop k)) (fun k => a.length - k) 0 (⟨Nat.zero_le _, Nat.zero_le _, rfl⟩) (Wk.re (.cons rfl (.refl _) (.cons rfl (.refl _) (.cons rfl (.refl _) (.cons rfl (.refl _) (.cons rfl (.refl _) (.cons rfl (.refl _) .nil)))))) (Reown.refl _) (fun _ h => by first | exact h | simp [h])) ?_
  intro k ⟨hk, hk2, hs⟩
  refine J.conv (by (try simp only [id_eq, stepsO, List.map_cons, List.map_nil, valO, nthO, curO, mrg, List.reverse_cons, List.reverse_nil, List.nil_append, List.cons_append, List.append_nil, List.getElem?_cons_zero, List.getElem?_cons_succ, Option.map_some, Option.getD_some, List.set_cons_zero, List.set_cons_succ, AV.cellsOf, splice_zero, splice_succ, Nat.zero_add, Nat.reduceAdd]); rfl) ?_
  refine J.seq ?_
  refine J.region_lit ?_
  refine JL.q rfl rfl rfl (QW.lss (.tmp rfl) (.tmp rfl)) ?_
  refine JL.nil ?_
  refine thenQ.n ?_
  refine J.seq ?_
  refine J.cond (.tmp rfl) (fun c1 => ?_) (fun c1 => ?_)
  · skip
    have hlt : k < a.length := by simpa using c1
    refine J.skip ?_
    refine thenQ.n ?_
    refine J.seq ?_
    refine J.block ?_
    refine J.seq ?_
    refine J.region_lit ?_
    refine JL.q rfl rfl rfl (QW.move (.tmp rfl)) ?_
    refine JL.q rfl rfl rfl (QW.index_sl sl27 ty29 rfl (.tmp rfl) (.tmp rfl) (by first | rfl | omega | (simp; done)) (by first | exact V.css_getE _ hlt | exact V.css_getE _ hlt2)) ?_
    refine JL.q rfl rfl rfl (by first | exact QW.load_ref ty29 (.tmp rfl) rfl rfl | exact QW.load_ref ty29 (.tmp rfl) (take_at0 (V.cs_length _ _) rfl) (V.cs_length _ _)) ?_
    refine JL.alloc z29 rfl rfl fun b8 => ?_
    refine JL.q rfl rfl rfl (QW.assign (.tmp rfl)) ?_
    first | refine JL.store_boxF 0 ty29 (.tmp rfl) rfl (.tmp rfl) (by first | rfl | assumption) (by first | rfl | exact V.cs_length _ _) (by first | rfl | exact V.cs_length _ _) rfl ?_ | refine JL.store_box 0 ty29 (.tmp rfl) rfl (.tmp rfl) (by first | rfl | assumption) (by first | rfl | exact V.cs_length _ _) rfl rfl rfl ?_
    refine JL.nil ?_
    refine thenQ.n ?_
    refine J.seq ?_
    refine J.seq ?_
    refine J.region_lit ?_
    refine JL.q rfl rfl rfl (QW.move (.tmp rfl)) ?_
    refine JL.q rfl rfl rfl (QW.move (.tmp rfl)) ?_
    refine JL.q rfl rfl rfl (by first | exact QW.len_slE sl27 (.tmp rfl) (keysAV_length _) | exact QW.len_slE sl27 (.tmp rfl) (V.css_length _ _) | exact QW.len_slE sl27 (.tmp rfl) (intsAV_length _) | exact QW.len_sl sl27 (.tmp rfl) | exact QW.len_nil sl27 (.tmp rfl)) ?_
    refine JL.q rfl rfl rfl (QW.geq (.tmp rfl) (.tmp rfl)) ?_
    refine JL.nil ?_
    refine thenQ.n ?_
    refine J.cond (.tmp rfl) (fun c2 => ?_) (fun c2 => ?_)
    · skip
      have hg2 : b.length ≤ k := by simpa using c2
      refine J.seq ?_
      refine J.region_lit ?_
      refine JL.q rfl rfl rfl (QW.assign .const) ?_
      refine JL.nil ?_
      refine thenQ.n ?_
      refine J.ret ?_
      refine thenQ.r ?_
      refine blkQ.r ?_
      refine thenQ.r ?_
      refine thenQ.r ?_
      refine blkQ.r ?_
      refine thenQ.r ?_
      exact ⟨_, selP [.k] _, _, RetEv.one rfl (REv.tmp rfl (.refl _)), rfl, sel_perm [.k] _, ⟨by rw [hs, ords_gt hlt hg2], rfl⟩⟩
    have hlt2 : k < b.length := by simpa using c2
    refine J.skip ?_
    refine thenQ.n ?_
    refine J.seq ?_
    refine J.region_lit ?_
    refine JL.q rfl rfl rfl (QW.move (.tmp rfl)) ?_
    refine JL.q rfl rfl rfl (QW.move (.tmp rfl)) ?_
    refine JL.q rfl rfl rfl (QW.index_sl sl27 ty29 rfl (.tmp rfl) (.tmp rfl) (by first | rfl | omega | (simp; done)) (by first | exact V.css_getE _ hlt | exact V.css_getE _ hlt2)) ?_
    refine JL.q rfl rfl rfl (by first | exact QW.load_ref ty29 (.tmp rfl) rfl rfl | exact QW.load_ref ty29 (.tmp rfl) (take_at0 (V.cs_length _ _) rfl) (V.cs_length _ _)) ?_
    refine JL.alloc z29 rfl rfl fun b9 => ?_
    first | refine JL.store_boxF 0 ty29 (.tmp rfl) rfl (.tmp rfl) (by first | rfl | assumption) (by first | rfl | exact V.cs_length _ _) (by first | rfl | exact V.cs_length _ _) rfl ?_ | refine JL.store_box 0 ty29 (.tmp rfl) rfl (.tmp rfl) (by first | rfl | assumption) (by first | rfl | exact V.cs_length _ _) rfl rfl rfl ?_
    refine JL.nil ?_
    refine thenQ.n ?_
    refine J.seq ?_
    refine J.region_lit ?_
    refine JL.q rfl rfl rfl (QW.move (.tmp rfl)) ?_
    refine JL.q rfl rfl rfl (by first | exact QW.load_box 1 ty29 (.tmp rfl) rfl rfl rfl | exact QW.load_box 1 ty29 (.tmp rfl) rfl (take_at (V.cs_length _ _) rfl) (V.cs_length _ _)) ?_
    refine JL.q rfl rfl rfl (by first | exact QW.load_box 0 ty29 (.tmp rfl) rfl rfl rfl | exact QW.load_box 0 ty29 (.tmp rfl) rfl (take_at (V.cs_length _ _) rfl) (V.cs_length _ _)) ?_
    refine JL.q rfl rfl rfl (QW.callV gofn99 (.tmp rfl) (.cons (.tmp rfl) (.cons (.tmp rfl) .nil)) rfl (ih _ (List.getElem_mem hlt) _ (List.getElem_mem hlt2))) ?_
    refine JL.q rfl rfl rfl (QW.assign (.tmp rfl)) ?_
    refine JL.nil ?_
    refine thenQ.n ?_
    refine J.seq ?_
    refine J.region_lit ?_
    refine JL.q rfl rfl rfl (QW.move (.tmp rfl)) ?_
    refine JL.q rfl rfl rfl (QW.neq (.tmp rfl) .const) ?_
    refine JL.nil ?_
    refine thenQ.n ?_
    refine J.cond (.tmp rfl) (fun c3 => ?_) (fun c3 => ?_)
    · skip
      have hz : (a[k]'hlt).ord (b[k]'hlt2) ≠ 0 := by simpa using c3
      refine J.seq ?_
      refine J.region_lit ?_
      refine JL.q rfl rfl rfl (QW.move (.tmp rfl)) ?_
      refine JL.q rfl rfl rfl (QW.assign (.tmp rfl)) ?_
      refine JL.nil ?_
      refine thenQ.n ?_
      refine J.ret ?_
      refine blkQ.r ?_
      refine thenQ.r ?_
      refine thenQ.r ?_
      refine blkQ.r ?_
      refine thenQ.r ?_
      exact ⟨_, selP [.k, .k] _, _, RetEv.one rfl (REv.tmp rfl (.refl _)), rfl, sel_perm [.k, .k] _, ⟨by rw [hs, ords_drop hlt hlt2, orI_n hz], rfl⟩⟩
    have hz : (a[k]'hlt).ord (b[k]'hlt2) = 0 := by simpa using c3
    refine J.skip ?_
    refine blkQ.n ?_
    refine thenQ.n ?_
    refine J.region_lit ?_
    refine JL.q rfl rfl rfl (QW.add (.tmp rfl) .const (by first | exact w64n (by first | rfl | omega | (simp; done)) (by omega) | exact w64 (by omega) | rfl)) ?_
    refine JL.q rfl rfl rfl (QW.move (.tmp rfl)) ?_
    refine JL.nil ?_
    refine thenQ.n ?_
    exact ⟨k + 1, ⟨hlt, hlt2, by rw [hs, ords_drop hlt hlt2, hz, orI_z]⟩, by omega, Wk.re (.cons rfl (.refl _) (.cons rfl (.refl _) (.cons rfl (.refl _) (.cons rfl (.refl _) (.cons rfl (.refl _) (.cons rfl (.refl _) .nil)))))) (Reown.dropN 2 _ rfl) (fun _ h => by first | exact h | simp [h])⟩
  have hge : a.length ≤ k := by simpa using c1
  refine J.exit ?_
  refine thenQ.x ?_
  refine thenQ.x ?_
  refine blkQ.hit ?_
  refine thenQ.n ?_
  refine J.seq ?_
  refine J.seq ?_
  refine J.region_lit ?_
  refine JL.q rfl rfl rfl (QW.move (.tmp rfl)) ?_
  refine JL.q rfl rfl rfl (by first | exact QW.len_slE sl27 (.tmp rfl) (keysAV_length _) | exact QW.len_slE sl27 (.tmp rfl) (V.css_length _ _) | exact QW.len_slE sl27 (.tmp rfl) (intsAV_length _) | exact QW.len_sl sl27 (.tmp rfl) | exact QW.len_nil sl27 (.tmp rfl)) ?_
  refine JL.q rfl rfl rfl (QW.move (.tmp rfl)) ?_
  refine JL.q rfl rfl rfl (by first | exact QW.len_slE sl27 (.tmp rfl) (keysAV_length _) | exact QW.len_slE sl27 (.tmp rfl) (V.css_length _ _) | exact QW.len_slE sl27 (.tmp rfl) (intsAV_length _) | exact QW.len_sl sl27 (.tmp rfl) | exact QW.len_nil sl27 (.tmp rfl)) ?_
  refine JL.q rfl rfl rfl (QW.lss (.tmp rfl) (.tmp rfl)) ?_
  refine JL.nil ?_
  refine thenQ.n ?_
  refine J.cond (.tmp rfl) (fun c2 => ?_) (fun c2 => ?_)
  · skip
    have hx : a.length < b.length := by simpa using c2
    refine J.seq ?_
    refine J.region_lit ?_
    refine JL.q rfl rfl rfl (QW.assign .const) ?_
    refine JL.nil ?_
    refine thenQ.n ?_
    refine J.ret ?_
    refine thenQ.r ?_
    exact ⟨_, selP [] _, _, RetEv.one rfl (REv.tmp rfl (.refl _)), rfl, sel_perm [] _, ⟨by rw [hs, ords_lt hge (by omega)], rfl⟩⟩
  have hx : b.length ≤ a.length := by simpa using c2
  refine J.skip ?_
  refine thenQ.n ?_
  refine J.seq ?_
  refine J.region_lit ?_
  refine JL.q rfl rfl rfl (QW.assign .const) ?_
  refine JL.nil ?_
  refine thenQ.n ?_
  refine J.ret ?_
  exact ⟨_, selP [] _, _, RetEv.one rfl (REv.tmp rfl (.refl _)), rfl, sel_perm [] _, ⟨by rw [hs, ords_eq hge (by omega)], rfl⟩⟩
end Go.Proofs.YtjhonjdhanlbkaaGreat.J

/- Walks: the order of values. -/
namespace Go.Proofs.YtjhonjdhanlbkaaGreat.J
open Go Go.RowKit
set_option maxRecDepth 10000
set_option maxHeartbeats 4000000
theorem vorder_n  : ∀ (n : Nat) {v u : V} {ys zs : List AV} {fr fr2 : Bool}, Vc fr v ys → Vc fr2 u zs → v.wf → u.wf → v.sz ≤ n →
    Fn Tryz.prog 99 [.agg ys, .agg zs] (.c (.int .i64 (v.ord u))) := by
  intro n
  induction n with
  | zero => intro v u ys zs fr fr2 hv hu hw hw2 h; exact absurd h (by have := V.sz_pos v; omega)
  | succ n ih =>
    intro v u ys zs fr fr2 hv hu hw hw2 hn
    obtain ⟨k, b, t, ks, is⟩ := v
    obtain ⟨k', b', t', ks', is'⟩ := u
    subst hv hu
    obtain ⟨-, hb, -, hk16, hi80, -, hwi⟩ := hw.inv
    obtain ⟨-, hb2, -, hk16', hi80', -, hwi'⟩ := hw2.inv
    have h1 : is.length ≤ 8796093022208 := by unfold reach at hi80; omega
    have h2 : is'.length ≤ 8796093022208 := by unfold reach at hi80'; omega
    have h3 : ks.length ≤ 8796093022208 := by unfold reach at hk16; omega
    have h4 : ks'.length ≤ 8796093022208 := by unfold reach at hk16'; omega
    refine AC.of_J Tryz.func99 rfl Tryz.ntmps99 rfl fun w0 A0 => ?_
    refine J.seq ?_
    refine J.region_lit ?_
    refine JL.box_agg (.tmp rfl) rfl fun b2 => ?_
    refine JL.box_agg (.tmp rfl) rfl fun b3 => ?_
    refine JL.q rfl rfl rfl (QW.assign .const) ?_
    refine JL.nil ?_
    refine thenQ.n ?_
    refine J.seq ?_
    refine J.seq ?_
    refine J.region_lit ?_
    refine JL.q rfl rfl rfl (QW.field_ptr fo29_0 (.tmp rfl) rfl) ?_
    refine JL.q rfl rfl rfl (QW.load_box1 1 ty3 (.tmp rfl) rfl rfl) ?_
    refine JL.q rfl rfl rfl (QW.field_ptr fo29_0 (.tmp rfl) rfl) ?_
    refine JL.q rfl rfl rfl (QW.load_box1 0 ty3 (.tmp rfl) rfl rfl) ?_
    refine JL.q rfl rfl rfl (QW.call gofn122 (.cons (.tmp rfl) (.cons (.tmp rfl) .nil)) (cmpI_ok _ _)) ?_
    refine JL.q rfl rfl rfl (QW.assign (.tmp rfl)) ?_
    refine JL.nil ?_
    refine thenQ.n ?_
    refine J.seq ?_
    refine J.region_lit ?_
    refine JL.q rfl rfl rfl (QW.move (.tmp rfl)) ?_
    refine JL.q rfl rfl rfl (QW.neq (.tmp rfl) .const) ?_
    refine JL.nil ?_
    refine thenQ.n ?_
    refine J.cond (.tmp rfl) (fun c1 => ?_) (fun c1 => ?_)
    · skip
      have hz : cmpI k k' ≠ 0 := by simpa using c1
      refine J.seq ?_
      refine J.region_lit ?_
      refine JL.q rfl rfl rfl (QW.move (.tmp rfl)) ?_
      refine JL.q rfl rfl rfl (QW.assign (.tmp rfl)) ?_
      refine JL.nil ?_
      refine thenQ.n ?_
      refine J.ret ?_
      refine thenQ.r ?_
      exact ⟨_, selP [.k, .k] _, _, RetEv.one rfl (REv.tmp rfl (.refl _)), rfl, sel_perm [.k, .k] _, ⟨by simp only [V.ord]; rw [orI_n hz], rfl⟩⟩
    have hz : cmpI k k' = 0 := by simpa using c1
    refine J.skip ?_
    refine thenQ.n ?_
    refine J.seq ?_
    refine J.regionX mixed ?_
    refine JX.f 0 [] rfl rfl rfl rfl rfl rfl rfl rfl (fun ow_ => (.q rfl (QW.field_ptr fo29_1 (.tmp rfl) rfl))) ?_
    refine JX.o 1 1 [16] rfl rfl rfl rfl rfl rfl rfl rfl rfl (fun ow_ ho_ => (.q rfl (QW.load_box1 1 ty22 (.tmp rfl) ho_ rfl))) ?_
    refine JX.f 2 [] rfl rfl rfl rfl rfl rfl rfl rfl (fun ow_ => (.q rfl (QW.field_ptr fo29_1 (.tmp rfl) rfl))) ?_
    refine JX.o 3 0 [18] rfl rfl rfl rfl rfl rfl rfl rfl rfl (fun ow_ ho_ => (.q rfl (QW.load_box1 0 ty22 (.tmp rfl) ho_ rfl))) ?_
    refine JX.f 4 [17] rfl rfl rfl rfl rfl rfl rfl rfl (fun ow_ => (.q rfl (QW.assign (.tmp rfl)))) ?_
    refine JX.f 5 [19] rfl rfl rfl rfl rfl rfl rfl rfl (fun ow_ => (.q rfl (QW.assign (.tmp rfl)))) ?_
    refine JX.fin (by kernel_rfl) (by kernel_rfl) fun bs_ => ?_
    refine QX.conv (by (try simp only [vlF, bxF, tkM, lvM, Flt.val, Flt.bx, List.append_assoc, List.take_succ_cons, List.take_zero, List.append_eq, id_eq, stepsO, List.map_cons, List.map_nil, valO, nthO, curO, mrg, List.reverse_cons, List.reverse_nil, List.nil_append, List.cons_append, List.append_nil, List.getElem?_cons_zero, List.getElem?_cons_succ, Option.map_some, Option.getD_some, List.set_cons_zero, List.set_cons_succ, AV.cellsOf, splice_zero, splice_succ, Nat.zero_add, Nat.reduceAdd]); rfl) ?_
    refine thenQ.n ?_
    refine J.cutK (ι := Nat × Nat) [2, 3, 4] (fun ⟨n1, n2⟩ => [(6, .c (.int .u64 (n1 : Int))), (7, .c (.int .u64 (n2 : Int)))]) (fun ⟨n1, n2⟩ oo => oo) (fun ⟨n1, n2⟩ => n1 = V.numb k b ∧ n2 = V.numb k b') ?_ ?_
    · skip
      refine J.seq ?_
      refine J.region_lit ?_
      refine JL.q rfl rfl rfl (QW.field_ptr fo29_0 (.tmp rfl) rfl) ?_
      refine JL.q rfl rfl rfl (QW.load_box1 1 ty3 (.tmp rfl) rfl rfl) ?_
      refine JL.q rfl rfl rfl (QW.eql (.tmp rfl) .const) ?_
      refine JL.nil ?_
      refine thenQ.n ?_
      refine J.cond (.tmp rfl) (fun c2 => ?_) (fun c2 => ?_)
      · skip
        have hk2 : k = 2 := by simpa using c2
        refine J.region_lit ?_
        refine JL.q rfl rfl rfl (QW.move (.tmp rfl)) ?_
        refine JL.q rfl rfl rfl (QW.call gofn123 (.cons (.tmp rfl) .nil) (order_ok _ (by assumption))) ?_
        refine JL.q rfl rfl rfl (QW.move (.tmp rfl)) ?_
        refine JL.q rfl rfl rfl (QW.call gofn123 (.cons (.tmp rfl) .nil) (order_ok _ (by assumption))) ?_
        refine JL.q rfl rfl rfl (QW.assign (.tmp rfl)) ?_
        refine JL.q rfl rfl rfl (QW.assign (.tmp rfl)) ?_
        refine JL.nil ?_
        refine thenQ.n ?_
        exact ⟨⟨orderN b, orderN b'⟩, ⟨(if_pos hk2).symm, (if_pos hk2).symm⟩, Wk.re (.cons rfl (.refl _) (.cons rfl (.refl _) (.cons rfl (.refl _) (.cons rfl (.refl _) (.cons rfl (.refl _) .nil))))) (Reown.refl _) (fun _ h => by first | exact h | simp [h])⟩
      have hk2 : k ≠ 2 := by simpa using c2
      refine J.skip ?_
      refine thenQ.n ?_
      exact ⟨⟨b, b'⟩, ⟨(if_neg hk2).symm, (if_neg hk2).symm⟩, Wk.re (.cons rfl (.refl _) (.cons rfl (.refl _) (.cons rfl (.refl _) (.cons rfl (.refl _) (.cons rfl (.refl _) .nil))))) (Reown.refl _) (fun _ h => by first | exact h | simp [h])⟩
    · intro ⟨n1, n2⟩ ⟨hn1, hn2⟩
      refine J.conv (by (try simp only [id_eq, stepsO, List.map_cons, List.map_nil, valO, nthO, curO, mrg, List.reverse_cons, List.reverse_nil, List.nil_append, List.cons_append, List.append_nil, List.getElem?_cons_zero, List.getElem?_cons_succ, Option.map_some, Option.getD_some, List.set_cons_zero, List.set_cons_succ, AV.cellsOf, splice_zero, splice_succ, Nat.zero_add, Nat.reduceAdd]); rfl) ?_
      refine J.seq ?_
      refine J.regionX mixed ?_
      refine JX.f 0 [] rfl rfl rfl rfl rfl rfl rfl rfl (fun ow_ => (.q rfl (QW.move (.tmp rfl)))) ?_
      refine JX.f 1 [] rfl rfl rfl rfl rfl rfl rfl rfl (fun ow_ => (.q rfl (QW.move (.tmp rfl)))) ?_
      refine JX.f 2 [27, 28] rfl rfl rfl rfl rfl rfl rfl rfl (fun ow_ => (.q rfl (QW.call gofn125 (.cons (.tmp rfl) (.cons (.tmp rfl) .nil)) (cmpU_ok _ _)))) ?_
      refine JX.f 3 [] rfl rfl rfl rfl rfl rfl rfl rfl (fun ow_ => (.q rfl (QW.field_ptr fo29_2 (.tmp rfl) rfl))) ?_
      refine JX.o 4 1 [30] rfl rfl rfl rfl rfl rfl rfl rfl rfl (fun ow_ ho_ => (.q rfl (QW.load_box1 1 ty9 (.tmp rfl) ho_ rfl))) ?_
      refine JX.f 5 [] rfl rfl rfl rfl rfl rfl rfl rfl (fun ow_ => (.q rfl (QW.field_ptr fo29_2 (.tmp rfl) rfl))) ?_
      refine JX.o 6 0 [32] rfl rfl rfl rfl rfl rfl rfl rfl rfl (fun ow_ ho_ => (.q rfl (QW.load_box1 0 ty9 (.tmp rfl) ho_ rfl))) ?_
      refine JX.f 7 [31, 33] rfl rfl rfl rfl rfl rfl rfl rfl (fun ow_ => (.q rfl (QW.call gofn126 (.cons (.tmp rfl) (.cons (.tmp rfl) .nil)) (cmpStr_ok _ _)))) ?_
      refine JX.f 8 [] rfl rfl rfl rfl rfl rfl rfl rfl (fun ow_ => (.q rfl (QW.field_ptr fo29_3 (.tmp rfl) rfl))) ?_
      refine JX.o 9 1 [35] rfl rfl rfl rfl rfl rfl rfl rfl rfl (fun ow_ ho_ => (.q rfl (QW.load_box1 1 ty26 (.tmp rfl) ho_ rfl))) ?_
      refine JX.f 10 [] rfl rfl rfl rfl rfl rfl rfl rfl (fun ow_ => (.q rfl (QW.field_ptr fo29_3 (.tmp rfl) rfl))) ?_
      refine JX.o 11 0 [37] rfl rfl rfl rfl rfl rfl rfl rfl rfl (fun ow_ ho_ => (.q rfl (QW.load_box1 0 ty26 (.tmp rfl) ho_ rfl))) ?_
      refine JX.f 12 [36, 38] rfl rfl rfl rfl rfl rfl rfl rfl (fun ow_ => (.q rfl (QW.call gofn127 (.cons (.tmp rfl) (.cons (.tmp rfl) .nil)) (cmpKeys_ok ks ks' h3 h4)))) ?_
      refine JX.f 13 [] rfl rfl rfl rfl rfl rfl rfl rfl (fun ow_ => (.q rfl (QW.field_ptr fo29_4 (.tmp rfl) rfl))) ?_
      refine JX.o 14 1 [40] rfl rfl rfl rfl rfl rfl rfl rfl rfl (fun ow_ ho_ => (.q rfl (QW.load_box1 1 ty27 (.tmp rfl) ho_ rfl))) ?_
      refine JX.f 15 [] rfl rfl rfl rfl rfl rfl rfl rfl (fun ow_ => (.q rfl (QW.field_ptr fo29_4 (.tmp rfl) rfl))) ?_
      refine JX.o 16 0 [42] rfl rfl rfl rfl rfl rfl rfl rfl rfl (fun ow_ ho_ => (.q rfl (QW.load_box1 0 ty27 (.tmp rfl) ho_ rfl))) ?_
      refine JX.f 17 [41, 43] rfl rfl rfl rfl rfl rfl rfl rfl (fun ow_ => (.q rfl (QW.call gofn128 (.cons (.tmp rfl) (.cons (.tmp rfl) (.cons .func .nil))) (cmpVals_ok is is' h1 h2 (fun x hx y hy => (by obtain ⟨i, hi, rfl⟩ := List.getElem_of_mem hx; exact ih Vc.self Vc.self (hwi _ hx) (hwi' _ hy) (V.sz_get hn hi))))))) ?_
      refine JX.f 18 [29, 34, 39, 44] rfl rfl rfl rfl rfl rfl rfl rfl (fun ow_ => (.q rfl (QW.buildSlice (idx := [0, 1, 2, 3]) (xs := [[.c (.int .i64 (cmpI (n1 : Int) (n2 : Int)))], [.c (.int .i64 (cmpS t t'))], [.c (.int .i64 (cmpK ks ks'))], [.c (.int .i64 (V.ords is is'))]]) sl130 el3 z3 rfl (.cons (.tmp rfl) (.cons (.tmp rfl) (.cons (.tmp rfl) (.cons (.tmp rfl) .nil)))) rfl rfl rfl rfl rfl rfl rfl rfl rfl))) ?_
      refine JX.f 19 [45] rfl rfl rfl rfl rfl rfl rfl rfl (fun ow_ => (.q rfl (QW.call gofn124 (.cons (.tmp rfl) .nil) (or_ok [(cmpI (n1 : Int) (n2 : Int)), (cmpS t t'), (cmpK ks ks'), (V.ords is is')] (by simp))))) ?_
      refine JX.f 20 [46] rfl rfl rfl rfl rfl rfl rfl rfl (fun ow_ => (.q rfl (QW.assign (.tmp rfl)))) ?_
      refine JX.fin (by kernel_rfl) (by kernel_rfl) fun bs_ => ?_
      refine QX.conv (by (try simp only [vlF, bxF, tkM, lvM, Flt.val, Flt.bx, List.append_assoc, List.take_succ_cons, List.take_zero, List.append_eq, id_eq, stepsO, List.map_cons, List.map_nil, valO, nthO, curO, mrg, List.reverse_cons, List.reverse_nil, List.nil_append, List.cons_append, List.append_nil, List.getElem?_cons_zero, List.getElem?_cons_succ, Option.map_some, Option.getD_some, List.set_cons_zero, List.set_cons_succ, AV.cellsOf, splice_zero, splice_succ, Nat.zero_add, Nat.reduceAdd]); rfl) ?_
      refine thenQ.n ?_
      refine J.ret ?_
      exact ⟨_, selP [.k, .k] _, _, RetEv.one rfl (REv.tmp rfl (.refl _)), rfl, sel_perm [.k, .k] _, ⟨by simp only [V.ord]; rw [hz, orI_z, ← hn1, ← hn2]; simp only [orL]; rw [show orI (V.ords is is') 0 = V.ords is is' from orL_one _], rfl⟩⟩
theorem vorder_ok {v u : V} {ys zs : List AV} {fr fr2 : Bool} (hv : Vc fr v ys) (hu : Vc fr2 u zs) (hw : v.wf) (hw2 : u.wf) : Fn Tryz.prog 99 [.agg ys, .agg zs] (.c (.int .i64 (v.ord u))) := vorder_n _ hv hu hw hw2 (Nat.le_refl _)
end Go.Proofs.YtjhonjdhanlbkaaGreat.J

/- Walks: the page's order of values. -/
namespace Go.Proofs.YtjhonjdhanlbkaaGreat.J
open Go Go.RowKit
set_option maxRecDepth 10000
set_option maxHeartbeats 4000000
section
variable {k : Int} {b b' : Nat} {t t' : Str} {ks ks' : List Str} {is is' : List V}
end
end Go.Proofs.YtjhonjdhanlbkaaGreat.J

/- Walks: the page sets a part; what is alive. -/
namespace Go.Proofs.YtjhonjdhanlbkaaGreat.J
open Go Go.RowKit
set_option maxRecDepth 10000
set_option maxHeartbeats 4000000
end Go.Proofs.YtjhonjdhanlbkaaGreat.J

/- Walks: values compared; ValueOrders, ValueOrder. -/
namespace Go.Proofs.YtjhonjdhanlbkaaGreat.J
open Go Go.RowKit
set_option maxRecDepth 10000
set_option maxHeartbeats 4000000
def cmpAV (v u : V) : AV := .tup [.c (.int .i64 (v.cmp u).1), .c (.int .i64 (v.cmp u).2)]
theorem cmpAV_of {v u : V} {c e : Int} (h : v.cmp u = (c, e)) : cmpAV v u = .tup [.c (.int .i64 c), .c (.int .i64 e)] := by rw [cmpAV, h]
theorem vcmp_ok {fr fr2 : Bool} {v u : V} {ys zs : List AV} (hv : Vc fr v ys) (hu : Vc fr2 u zs) (hw : v.wf) (hw2 : u.wf) : Fn Tryz.prog 75 [.agg ys, .agg zs] (cmpAV v u) := by
  subst hv hu
  refine AC.of_J Tryz.func75 rfl Tryz.ntmps75 rfl fun w0 A0 => ?_
  refine J.seq ?_
  refine J.region_lit ?_
  refine JL.box_agg (.tmp rfl) rfl fun b2 => ?_
  refine JL.box_agg (.tmp rfl) rfl fun b3 => ?_
  refine JL.q rfl rfl rfl (QW.assign .const) ?_
  refine JL.q rfl rfl rfl (QW.assign .const) ?_
  refine JL.nil ?_
  refine thenQ.n ?_
  refine J.seq ?_
  refine J.seq ?_
  refine J.region_lit ?_
  refine JL.q rfl rfl rfl (by first | exact QW.load_box 1 ty29 (.tmp rfl) rfl rfl rfl | exact QW.load_box 1 ty29 (.tmp rfl) rfl (take_at (V.cs_length _ _) rfl) (V.cs_length _ _)) ?_
  refine JL.q rfl rfl rfl (QW.call gofn18 (.cons (.tmp rfl) .nil) (check_ok Vc.self hw)) ?_
  refine JL.q rfl rfl rfl (QW.assign (.tmp rfl)) ?_
  refine JL.nil ?_
  refine thenQ.n ?_
  refine J.seq ?_
  refine J.region_lit ?_
  refine JL.q rfl rfl rfl (QW.move (.tmp rfl)) ?_
  refine JL.q rfl rfl rfl (QW.neq (.tmp rfl) .const) ?_
  refine JL.nil ?_
  refine thenQ.n ?_
  refine J.cond (.tmp rfl) (fun c1 => ?_) (fun c1 => ?_)
  · skip
    simp at c1
    refine J.seq ?_
    refine J.region_lit ?_
    refine JL.q rfl rfl rfl (QW.move (.tmp rfl)) ?_
    refine JL.q rfl rfl rfl (QW.assign .const) ?_
    refine JL.q rfl rfl rfl (QW.assign (.tmp rfl)) ?_
    refine JL.nil ?_
    refine thenQ.n ?_
    refine J.ret ?_
    refine thenQ.r ?_
    exact ⟨_, selP [.k, .k] _, _, RetEv.two rfl (REv.tmp rfl (.refl _)) (REv.tmp rfl (.refl _)), rfl, sel_perm [.k, .k] _, ⟨congrArg Res.ret (cmpAV_of (c := 0) (e := v.err) (by rw [V.cmp, if_pos c1])).symm, rfl⟩⟩
  simp at c1
  have hf := V.fine_of c1
  refine J.skip ?_
  refine thenQ.n ?_
  refine J.seq ?_
  refine J.seq ?_
  refine J.region_lit ?_
  refine JL.q rfl rfl rfl (by first | exact QW.load_box 0 ty29 (.tmp rfl) rfl rfl rfl | exact QW.load_box 0 ty29 (.tmp rfl) rfl (take_at (V.cs_length _ _) rfl) (V.cs_length _ _)) ?_
  refine JL.q rfl rfl rfl (QW.call gofn18 (.cons (.tmp rfl) .nil) (check_ok Vc.self hw2)) ?_
  refine JL.q rfl rfl rfl (QW.assign (.tmp rfl)) ?_
  refine JL.nil ?_
  refine thenQ.n ?_
  refine J.seq ?_
  refine J.region_lit ?_
  refine JL.q rfl rfl rfl (QW.move (.tmp rfl)) ?_
  refine JL.q rfl rfl rfl (QW.neq (.tmp rfl) .const) ?_
  refine JL.nil ?_
  refine thenQ.n ?_
  refine J.cond (.tmp rfl) (fun c2 => ?_) (fun c2 => ?_)
  · skip
    simp at c2
    refine J.seq ?_
    refine J.region_lit ?_
    refine JL.q rfl rfl rfl (QW.move (.tmp rfl)) ?_
    refine JL.q rfl rfl rfl (QW.assign .const) ?_
    refine JL.q rfl rfl rfl (QW.assign (.tmp rfl)) ?_
    refine JL.nil ?_
    refine thenQ.n ?_
    refine J.ret ?_
    refine thenQ.r ?_
    exact ⟨_, selP [.k, .k] _, _, RetEv.two rfl (REv.tmp rfl (.refl _)) (REv.tmp rfl (.refl _)), rfl, sel_perm [.k, .k] _, ⟨congrArg Res.ret (cmpAV_of (c := 0) (e := u.err) (by rw [V.cmp, if_neg (by simp [c1]), if_pos c2])).symm, rfl⟩⟩
  simp at c2
  have hg := V.fine_of c2
  refine J.skip ?_
  refine thenQ.n ?_
  refine J.seq ?_
  refine J.region_lit ?_
  refine JL.q rfl rfl rfl (by first | exact QW.load_box 1 ty29 (.tmp rfl) rfl rfl rfl | exact QW.load_box 1 ty29 (.tmp rfl) rfl (take_at (V.cs_length _ _) rfl) (V.cs_length _ _)) ?_
  refine JL.q rfl rfl rfl (by first | exact QW.load_box 0 ty29 (.tmp rfl) rfl rfl rfl | exact QW.load_box 0 ty29 (.tmp rfl) rfl (take_at (V.cs_length _ _) rfl) (V.cs_length _ _)) ?_
  refine JL.q rfl rfl rfl (QW.call gofn99 (.cons (.tmp rfl) (.cons (.tmp rfl) .nil)) (vorder_ok Vc.self Vc.self hw hw2)) ?_
  refine JL.q rfl rfl rfl (QW.assign (.tmp rfl)) ?_
  refine JL.q rfl rfl rfl (QW.assign .const) ?_
  refine JL.nil ?_
  refine thenQ.n ?_
  refine J.ret ?_
  exact ⟨_, selP [.k, .k] _, _, RetEv.two rfl (REv.tmp rfl (.refl _)) (REv.tmp rfl (.refl _)), rfl, sel_perm [.k, .k] _, ⟨congrArg Res.ret (cmpAV_of (c := v.ord u) (e := 0) (by rw [V.cmp, if_neg (by simp [c1]), if_neg (by simp [c2])])).symm, rfl⟩⟩
theorem vone_ok {fr fr2 : Bool} {v u : V} {ys zs : List AV} (hv : Vc fr v ys) (hu : Vc fr2 u zs) (hw : v.wf) (hw2 : u.wf) : Fn Tryz.prog 74 [.agg ys, .agg zs] (.c (.bool (v.one u))) := by
  subst hv hu
  refine AC.of_J Tryz.func74 rfl Tryz.ntmps74 rfl fun w0 A0 => ?_
  refine J.seq ?_
  refine J.region_lit ?_
  refine JL.box_agg (.tmp rfl) rfl fun b2 => ?_
  refine JL.box_agg (.tmp rfl) rfl fun b3 => ?_
  refine JL.q rfl rfl rfl (QW.assign .const) ?_
  refine JL.nil ?_
  refine thenQ.n ?_
  refine J.seq ?_
  refine J.region_lit ?_
  refine JL.q rfl rfl rfl (by first | exact QW.load_box 1 ty29 (.tmp rfl) rfl rfl rfl | exact QW.load_box 1 ty29 (.tmp rfl) rfl (take_at (V.cs_length _ _) rfl) (V.cs_length _ _)) ?_
  refine JL.q rfl rfl rfl (by first | exact QW.load_box 0 ty29 (.tmp rfl) rfl rfl rfl | exact QW.load_box 0 ty29 (.tmp rfl) rfl (take_at (V.cs_length _ _) rfl) (V.cs_length _ _)) ?_
  refine JL.q rfl rfl rfl (QW.call gofn75 (.cons (.tmp rfl) (.cons (.tmp rfl) .nil)) (vcmp_ok Vc.self Vc.self hw hw2)) ?_
  refine JL.q rfl rfl rfl (QW.move (.tmp rfl)) ?_
  refine JL.q rfl rfl rfl (QW.extract (.tmp rfl) rfl) ?_
  refine JL.q rfl rfl rfl (QW.extract (.tmp rfl) rfl) ?_
  refine JL.q rfl rfl rfl (QW.assign (.tmp rfl)) ?_
  refine JL.q rfl rfl rfl (QW.assign (.tmp rfl)) ?_
  refine JL.nil ?_
  refine thenQ.n ?_
  refine J.seq ?_
  refine J.region_lit ?_
  refine JL.q rfl rfl rfl (QW.move (.tmp rfl)) ?_
  refine JL.q rfl rfl rfl (QW.eql (.tmp rfl) .const) ?_
  refine JL.q rfl rfl rfl (QW.move (.tmp rfl)) ?_
  refine JL.g rfl rfl rfl rfl rfl (fun hg => (QW.move (.tmp rfl))) ?_
  refine JL.g rfl rfl rfl rfl rfl (fun hg => (QW.eql (.when rfl hg) .const)) ?_
  refine JL.q rfl rfl rfl (QW.pick_and (.tmp rfl) (.tmp rfl)) ?_
  refine JL.q rfl rfl rfl (QW.assign (.tmp rfl)) ?_
  refine JL.nil ?_
  refine thenQ.n ?_
  refine J.ret ?_
  exact ⟨_, selP [.k, .k] _, _, RetEv.one rfl (REv.tmp rfl (.refl _)), rfl, sel_perm [.k, .k] _, ⟨by unfold V.one; rfl, rfl⟩⟩
end Go.Proofs.YtjhonjdhanlbkaaGreat.J

/- Walks: operations whose parts are all reckoned. -/
namespace Go.Proofs.YtjhonjdhanlbkaaGreat.J
open Go Go.RowKit
set_option maxRecDepth 10000
set_option maxHeartbeats 4000000
theorem pe11 {o : Int} (ho : o = 11 ∨ o = 12 ∨ o = 13 ∨ o = 14) (t : Str) (a b : V) : plainE o t [a, b] = if a.kind ≠ 2 ∨ b.kind ≠ 2 then .error 81 else .ok (.nu (arO o a.bits b.bits)) := by
  rcases ho with rfl | rfl | rfl | rfl <;> rfl
theorem pe15 (t : Str) (a : V) : plainE 15 t [a] = if a.kind = 2 then .ok (.nu (floorC a.bits)) else .error 81 := rfl
theorem pe16 (t : Str) (a b : V) : plainE 16 t [a, b] = .ok (.tr (a.ord b == 0)) := rfl
theorem pe17 (t : Str) (a b : V) : plainE 17 t [a, b] = if b.kind = a.kind then .ok (.tr (decide (a.ord b < 0))) else .error 81 := rfl
theorem pe20 (t : Str) (a : V) : plainE 20 t [a] = if a.kind = 1 then .ok (.tr (a.bits == 0)) else .error 81 := rfl
theorem pe22 (t : Str) (a b : V) : plainE 22 t [a, b] = if a.kind ≠ 3 ∨ b.kind ≠ 3 then .error 81 else if 128 < a.text.length + b.text.length then .error 84 else .ok (.tx (a.text ++ b.text)) := rfl
theorem pe26 (t : Str) (a : V) : plainE 26 t [a] = if a.kind ≠ 2 then .error 81 else if intE a.bits ≠ 0 then .error 7 else .ok (.tx (intD (intV a.bits))) := rfl
theorem plain_ok {fr : Bool} {o : Int} {bb : Nat} {t : Str} {args : List EX} {l : List V} {ys : List AV} (he : Xc fr (.mk o bb t args) ys) (ht : t.length ≤ reach) (hl : ∀ x ∈ l, x.good) (hn : l.length ≤ 8 ∧ (o = 23 ∨ ((o = 8 ∨ o = 10 ∨ o = 15 ∨ o = 20 ∨ o = 26) ∧ l.length = 1) ∨ ((o = 9 ∨ o = 11 ∨ o = 12 ∨ o = 13 ∨ o = 14 ∨ o = 16 ∨ o = 17 ∨ o = 22 ∨ o = 24 ∨ o = 25) ∧ l.length = 2))) :
    AC Tryz.prog 50 [] [.agg ys, .sl false false eV (V.css false l)] (PlR (plainE o t l)) := by
  subst he
  obtain ⟨hn8, hn⟩ := hn
  refine AC.of_J Tryz.func50 rfl Tryz.ntmps50 rfl fun w0 A0 => ?_
  refine J.seq ?_
  refine J.region_lit ?_
  refine JL.box_agg (.tmp rfl) rfl fun b2 => ?_
  refine JL.alloc z29 rfl rfl fun b4 => ?_
  refine JL.nil ?_
  refine thenQ.n ?_
  refine J.seq ?_
  refine J.seq ?_
  refine J.region_lit ?_
  refine JL.q rfl rfl rfl (QW.field_ptr fo34_0 (.tmp rfl) rfl) ?_
  refine JL.q rfl rfl rfl (QW.load_box1 1 ty3 (.tmp rfl) rfl rfl) ?_
  refine JL.nil ?_
  refine thenQ.n ?_
  refine J.block ?_
  refine J.seq ?_
  refine J.seq ?_
  refine J.region_lit ?_
  refine JL.q rfl rfl rfl (QW.eql (.tmp rfl) .const) ?_
  refine JL.q rfl rfl rfl (QW.assign (.tmp rfl)) ?_
  refine JL.nil ?_
  refine thenQ.n ?_
  refine J.cond (.tmp rfl) (fun c1 => ?_) (fun c1 => ?_)
  · skip
    have ho : o = 11 ∨ o = 12 ∨ o = 13 ∨ o = 14 := by (simp at c1; omega)
    obtain ⟨a, b, rfl⟩ := two_of (l := l) (by omega)
    have ha := hl a (by simp)
    have hb := hl b (by simp)
    refine J.skip ?_
    refine thenQ.n ?_
    refine J.cond (.tmp rfl) (fun c2 => ?_) (fun c2 => absurd c2 (by rw [c1]; decide))
    refine J.seq ?_
    refine J.region_lit ?_
    refine JL.q rfl rfl rfl (QW.move (.tmp rfl)) ?_
    refine JL.q rfl rfl rfl (QW.buildSlice (idx := [0, 1]) (xs := intsAV [2, 2]) sl130 el3 z3 rfl (.cons .const (.cons .const .nil)) rfl rfl rfl rfl rfl rfl rfl rfl rfl) ?_
    refine JL.callPF [] gofn71 rfl Lent.nil (fun _ => (.cons (.tmp rfl) (.cons (.tmp rfl) .nil))) (kinds_ok _ [2, 2] (by simp) (by simp)) (.inl rfl) (fun k18 x18 o18 h18 => ?_) (fun k18 => ?_)
    rotate_left
    · skip
      refine thenQ.p ?_
      refine blkQ.p ?_
      refine thenQ.p ?_
      exact ⟨_, selP [.k, .k] _, _, rfl, rfl, sel_perm [.k, .k] _, PlR.er (c := 81) ((pe11 ho t a b).trans (if_pos (by simp [kindsB] at k18; omega))) (by decide)⟩
    obtain ⟨rfl, rfl⟩ := h18
    refine JL.nil ?_
    refine thenQ.n ?_
    refine J.seq ?_
    refine J.regionX mixed ?_
    refine JX.f 0 [] rfl rfl rfl rfl rfl rfl rfl rfl (fun ow_ => (.q rfl (QW.field_ptr fo34_0 (.tmp rfl) rfl))) ?_
    refine JX.o 1 1 [19] rfl rfl rfl rfl rfl rfl rfl rfl rfl (fun ow_ ho_ => (.q rfl (QW.load_box1 1 ty3 (.tmp rfl) ho_ rfl))) ?_
    refine JX.f 2 [] rfl rfl rfl rfl rfl rfl rfl rfl (fun ow_ => (.q rfl (QW.move (.tmp rfl)))) ?_
    refine JX.f 3 [21] rfl rfl rfl rfl rfl rfl rfl rfl (fun ow_ => (.q rfl (QW.index_sl sl27 ty29 rfl (.tmp rfl) .const (by first | rfl | omega | (simp; done)) (by first | rfl | assumption)))) ?_
    refine JX.f 4 [22] rfl rfl rfl rfl rfl rfl rfl rfl (fun ow_ => (.q rfl (QW.field_ref fo29_1 (.tmp rfl) rfl))) ?_
    refine JX.f 5 [23] rfl rfl rfl rfl rfl rfl rfl rfl (fun ow_ => (.q rfl (QW.load_ref1 ty22 (.tmp rfl) (V.cs_1 _ _)))) ?_
    refine JX.f 6 [] rfl rfl rfl rfl rfl rfl rfl rfl (fun ow_ => (.q rfl (QW.move (.tmp rfl)))) ?_
    refine JX.f 7 [25] rfl rfl rfl rfl rfl rfl rfl rfl (fun ow_ => (.q rfl (QW.index_sl sl27 ty29 rfl (.tmp rfl) .const (by first | rfl | omega | (simp; done)) (by first | rfl | assumption)))) ?_
    refine JX.f 8 [26] rfl rfl rfl rfl rfl rfl rfl rfl (fun ow_ => (.q rfl (QW.field_ref fo29_1 (.tmp rfl) rfl))) ?_
    refine JX.f 9 [27] rfl rfl rfl rfl rfl rfl rfl rfl (fun ow_ => (.q rfl (QW.load_ref1 ty22 (.tmp rfl) (V.cs_1 _ _)))) ?_
    refine JX.f 10 [20, 24, 28] rfl rfl rfl rfl rfl rfl rfl rfl (fun ow_ => (.q rfl (QW.call gofn72 (.cons (.tmp rfl) (.cons (.tmp rfl) (.cons (.tmp rfl) .nil))) (arith_ok _ _ _)))) ?_
    refine JX.one 11 [true, true, true, true, true, true, true, true, true, true, true] rfl (by kernel_rfl) (by kernel_rfl) rfl rfl (by kernel_rfl) rfl fun bs11_ pe_ ex_ => ?_
    refine JL.conv (by (try simp only [vlF, bxF, tkM, lvM, Flt.val, Flt.bx, List.append_assoc, List.take_succ_cons, List.take_zero, List.append_eq, id_eq, stepsO, List.map_cons, List.map_nil, valO, nthO, curO, mrg, List.reverse_cons, List.reverse_nil, List.nil_append, List.cons_append, List.append_nil, List.getElem?_cons_zero, List.getElem?_cons_succ, Option.map_some, Option.getD_some, List.set_cons_zero, List.set_cons_succ, AV.cellsOf, splice_zero, splice_succ, Nat.zero_add, Nat.reduceAdd]); rfl) ?_
    first | refine JL.store_boxF 0 ty29 (.tmp rfl) rfl (.tmp rfl) (by first | rfl | assumption) (by first | rfl | exact V.cs_length _ _) (by first | rfl | exact V.cs_length _ _) rfl ?_ | refine JL.store_box 0 ty29 (.tmp rfl) rfl (.tmp rfl) (by first | rfl | assumption) (by first | rfl | exact V.cs_length _ _) rfl rfl rfl ?_
    refine JL.nil ?_
    refine thenQ.n ⟨[], _, rfl, rfl, rfl, rfl, rfl, Reown.tkN 2 rfl, trivial, trivial, ?_⟩
    refine JX.conv (S' := [11, 10, 9, 8, 7, 6, 5, 4, 3, 2, 1, 0]) rfl (by (try simp only [lvM]); rfl) (by (try simp only [vlF, bxF, tkM, lvM, Flt.val, Flt.bx, List.append_assoc, List.take_succ_cons, List.take_zero, List.append_eq, id_eq, stepsO, List.map_cons, List.map_nil, valO, nthO, curO, mrg, List.reverse_cons, List.reverse_nil, List.nil_append, List.cons_append, List.append_nil, List.getElem?_cons_zero, List.getElem?_cons_succ, Option.map_some, Option.getD_some, List.set_cons_zero, List.set_cons_succ, AV.cellsOf, splice_zero, splice_succ, Nat.zero_add, Nat.reduceAdd]); rfl) ?_
    refine JX.fin (by kernel_rfl) (by kernel_rfl) fun bs_ => ?_
    refine QX.conv (by (try simp only [vlF, bxF, tkM, lvM, Flt.val, Flt.bx, List.append_assoc, List.take_succ_cons, List.take_zero, List.append_eq, id_eq, stepsO, List.map_cons, List.map_nil, valO, nthO, curO, mrg, List.reverse_cons, List.reverse_nil, List.nil_append, List.cons_append, List.append_nil, List.getElem?_cons_zero, List.getElem?_cons_succ, Option.map_some, Option.getD_some, List.set_cons_zero, List.set_cons_succ, AV.cellsOf, splice_zero, splice_succ, Nat.zero_add, Nat.reduceAdd]); rfl) ?_
    refine thenQ.n ?_
    refine J.ret ?_
    refine blkQ.r ?_
    refine thenQ.r ?_
    exact ⟨_, selP [.k, .k] _, _, RetEv.one rfl (by first | exact REv.cell 0 ty29 rfl rfl rfl rfl (.refl _) | exact REv.cell 0 ty29 rfl rfl (take_at (V.cs_length _ _) rfl) (V.cs_length _ _) (.refl _)), rfl, sel_perm [.k, .k] _, PlR.ok ((pe11 ho t a b).trans (if_neg (by simp [kindsB] at k18; omega)))⟩
  have n11 : ¬ o = 11 := by simpa using c1
  refine J.seq ?_
  refine J.region_lit ?_
  refine JL.q rfl rfl rfl (QW.eql (.tmp rfl) .const) ?_
  refine JL.q rfl rfl rfl (QW.assign (.tmp rfl)) ?_
  refine JL.nil ?_
  refine thenQ.n ?_
  refine J.cond (.tmp rfl) (fun c2 => ?_) (fun c2 => ?_)
  · skip
    have ho : o = 11 ∨ o = 12 ∨ o = 13 ∨ o = 14 := by (simp at c2; omega)
    obtain ⟨a, b, rfl⟩ := two_of (l := l) (by omega)
    have ha := hl a (by simp)
    have hb := hl b (by simp)
    refine J.skip ?_
    refine thenQ.n ?_
    refine J.cond (.tmp rfl) (fun c3 => ?_) (fun c3 => absurd c3 (by rw [c2]; decide))
    refine J.seq ?_
    refine J.region_lit ?_
    refine JL.q rfl rfl rfl (QW.move (.tmp rfl)) ?_
    refine JL.q rfl rfl rfl (QW.buildSlice (idx := [0, 1]) (xs := intsAV [2, 2]) sl130 el3 z3 rfl (.cons .const (.cons .const .nil)) rfl rfl rfl rfl rfl rfl rfl rfl rfl) ?_
    refine JL.callPF [] gofn71 rfl Lent.nil (fun _ => (.cons (.tmp rfl) (.cons (.tmp rfl) .nil))) (kinds_ok _ [2, 2] (by simp) (by simp)) (.inl rfl) (fun k18 x18 o18 h18 => ?_) (fun k18 => ?_)
    rotate_left
    · skip
      refine thenQ.p ?_
      refine blkQ.p ?_
      refine thenQ.p ?_
      exact ⟨_, selP [.k, .k] _, _, rfl, rfl, sel_perm [.k, .k] _, PlR.er (c := 81) ((pe11 ho t a b).trans (if_pos (by simp [kindsB] at k18; omega))) (by decide)⟩
    obtain ⟨rfl, rfl⟩ := h18
    refine JL.nil ?_
    refine thenQ.n ?_
    refine J.seq ?_
    refine J.regionX mixed ?_
    refine JX.f 0 [] rfl rfl rfl rfl rfl rfl rfl rfl (fun ow_ => (.q rfl (QW.field_ptr fo34_0 (.tmp rfl) rfl))) ?_
    refine JX.o 1 1 [19] rfl rfl rfl rfl rfl rfl rfl rfl rfl (fun ow_ ho_ => (.q rfl (QW.load_box1 1 ty3 (.tmp rfl) ho_ rfl))) ?_
    refine JX.f 2 [] rfl rfl rfl rfl rfl rfl rfl rfl (fun ow_ => (.q rfl (QW.move (.tmp rfl)))) ?_
    refine JX.f 3 [21] rfl rfl rfl rfl rfl rfl rfl rfl (fun ow_ => (.q rfl (QW.index_sl sl27 ty29 rfl (.tmp rfl) .const (by first | rfl | omega | (simp; done)) (by first | rfl | assumption)))) ?_
    refine JX.f 4 [22] rfl rfl rfl rfl rfl rfl rfl rfl (fun ow_ => (.q rfl (QW.field_ref fo29_1 (.tmp rfl) rfl))) ?_
    refine JX.f 5 [23] rfl rfl rfl rfl rfl rfl rfl rfl (fun ow_ => (.q rfl (QW.load_ref1 ty22 (.tmp rfl) (V.cs_1 _ _)))) ?_
    refine JX.f 6 [] rfl rfl rfl rfl rfl rfl rfl rfl (fun ow_ => (.q rfl (QW.move (.tmp rfl)))) ?_
    refine JX.f 7 [25] rfl rfl rfl rfl rfl rfl rfl rfl (fun ow_ => (.q rfl (QW.index_sl sl27 ty29 rfl (.tmp rfl) .const (by first | rfl | omega | (simp; done)) (by first | rfl | assumption)))) ?_
    refine JX.f 8 [26] rfl rfl rfl rfl rfl rfl rfl rfl (fun ow_ => (.q rfl (QW.field_ref fo29_1 (.tmp rfl) rfl))) ?_
    refine JX.f 9 [27] rfl rfl rfl rfl rfl rfl rfl rfl (fun ow_ => (.q rfl (QW.load_ref1 ty22 (.tmp rfl) (V.cs_1 _ _)))) ?_
    refine JX.f 10 [20, 24, 28] rfl rfl rfl rfl rfl rfl rfl rfl (fun ow_ => (.q rfl (QW.call gofn72 (.cons (.tmp rfl) (.cons (.tmp rfl) (.cons (.tmp rfl) .nil))) (arith_ok _ _ _)))) ?_
    refine JX.one 11 [true, true, true, true, true, true, true, true, true, true, true] rfl (by kernel_rfl) (by kernel_rfl) rfl rfl (by kernel_rfl) rfl fun bs11_ pe_ ex_ => ?_
    refine JL.conv (by (try simp only [vlF, bxF, tkM, lvM, Flt.val, Flt.bx, List.append_assoc, List.take_succ_cons, List.take_zero, List.append_eq, id_eq, stepsO, List.map_cons, List.map_nil, valO, nthO, curO, mrg, List.reverse_cons, List.reverse_nil, List.nil_append, List.cons_append, List.append_nil, List.getElem?_cons_zero, List.getElem?_cons_succ, Option.map_some, Option.getD_some, List.set_cons_zero, List.set_cons_succ, AV.cellsOf, splice_zero, splice_succ, Nat.zero_add, Nat.reduceAdd]); rfl) ?_
    first | refine JL.store_boxF 0 ty29 (.tmp rfl) rfl (.tmp rfl) (by first | rfl | assumption) (by first | rfl | exact V.cs_length _ _) (by first | rfl | exact V.cs_length _ _) rfl ?_ | refine JL.store_box 0 ty29 (.tmp rfl) rfl (.tmp rfl) (by first | rfl | assumption) (by first | rfl | exact V.cs_length _ _) rfl rfl rfl ?_
    refine JL.nil ?_
    refine thenQ.n ⟨[], _, rfl, rfl, rfl, rfl, rfl, Reown.tkN 2 rfl, trivial, trivial, ?_⟩
    refine JX.conv (S' := [11, 10, 9, 8, 7, 6, 5, 4, 3, 2, 1, 0]) rfl (by (try simp only [lvM]); rfl) (by (try simp only [vlF, bxF, tkM, lvM, Flt.val, Flt.bx, List.append_assoc, List.take_succ_cons, List.take_zero, List.append_eq, id_eq, stepsO, List.map_cons, List.map_nil, valO, nthO, curO, mrg, List.reverse_cons, List.reverse_nil, List.nil_append, List.cons_append, List.append_nil, List.getElem?_cons_zero, List.getElem?_cons_succ, Option.map_some, Option.getD_some, List.set_cons_zero, List.set_cons_succ, AV.cellsOf, splice_zero, splice_succ, Nat.zero_add, Nat.reduceAdd]); rfl) ?_
    refine JX.fin (by kernel_rfl) (by kernel_rfl) fun bs_ => ?_
    refine QX.conv (by (try simp only [vlF, bxF, tkM, lvM, Flt.val, Flt.bx, List.append_assoc, List.take_succ_cons, List.take_zero, List.append_eq, id_eq, stepsO, List.map_cons, List.map_nil, valO, nthO, curO, mrg, List.reverse_cons, List.reverse_nil, List.nil_append, List.cons_append, List.append_nil, List.getElem?_cons_zero, List.getElem?_cons_succ, Option.map_some, Option.getD_some, List.set_cons_zero, List.set_cons_succ, AV.cellsOf, splice_zero, splice_succ, Nat.zero_add, Nat.reduceAdd]); rfl) ?_
    refine thenQ.n ?_
    refine J.ret ?_
    refine blkQ.r ?_
    refine thenQ.r ?_
    exact ⟨_, selP [.k, .k] _, _, RetEv.one rfl (by first | exact REv.cell 0 ty29 rfl rfl rfl rfl (.refl _) | exact REv.cell 0 ty29 rfl rfl (take_at (V.cs_length _ _) rfl) (V.cs_length _ _) (.refl _)), rfl, sel_perm [.k, .k] _, PlR.ok ((pe11 ho t a b).trans (if_neg (by simp [kindsB] at k18; omega)))⟩
  have n12 : ¬ o = 12 := by simpa using c2
  refine J.seq ?_
  refine J.region_lit ?_
  refine JL.q rfl rfl rfl (QW.eql (.tmp rfl) .const) ?_
  refine JL.q rfl rfl rfl (QW.assign (.tmp rfl)) ?_
  refine JL.nil ?_
  refine thenQ.n ?_
  refine J.cond (.tmp rfl) (fun c3 => ?_) (fun c3 => ?_)
  · skip
    have ho : o = 11 ∨ o = 12 ∨ o = 13 ∨ o = 14 := by (simp at c3; omega)
    obtain ⟨a, b, rfl⟩ := two_of (l := l) (by omega)
    have ha := hl a (by simp)
    have hb := hl b (by simp)
    refine J.skip ?_
    refine thenQ.n ?_
    refine J.cond (.tmp rfl) (fun c4 => ?_) (fun c4 => absurd c4 (by rw [c3]; decide))
    refine J.seq ?_
    refine J.region_lit ?_
    refine JL.q rfl rfl rfl (QW.move (.tmp rfl)) ?_
    refine JL.q rfl rfl rfl (QW.buildSlice (idx := [0, 1]) (xs := intsAV [2, 2]) sl130 el3 z3 rfl (.cons .const (.cons .const .nil)) rfl rfl rfl rfl rfl rfl rfl rfl rfl) ?_
    refine JL.callPF [] gofn71 rfl Lent.nil (fun _ => (.cons (.tmp rfl) (.cons (.tmp rfl) .nil))) (kinds_ok _ [2, 2] (by simp) (by simp)) (.inl rfl) (fun k18 x18 o18 h18 => ?_) (fun k18 => ?_)
    rotate_left
    · skip
      refine thenQ.p ?_
      refine blkQ.p ?_
      refine thenQ.p ?_
      exact ⟨_, selP [.k, .k] _, _, rfl, rfl, sel_perm [.k, .k] _, PlR.er (c := 81) ((pe11 ho t a b).trans (if_pos (by simp [kindsB] at k18; omega))) (by decide)⟩
    obtain ⟨rfl, rfl⟩ := h18
    refine JL.nil ?_
    refine thenQ.n ?_
    refine J.seq ?_
    refine J.regionX mixed ?_
    refine JX.f 0 [] rfl rfl rfl rfl rfl rfl rfl rfl (fun ow_ => (.q rfl (QW.field_ptr fo34_0 (.tmp rfl) rfl))) ?_
    refine JX.o 1 1 [19] rfl rfl rfl rfl rfl rfl rfl rfl rfl (fun ow_ ho_ => (.q rfl (QW.load_box1 1 ty3 (.tmp rfl) ho_ rfl))) ?_
    refine JX.f 2 [] rfl rfl rfl rfl rfl rfl rfl rfl (fun ow_ => (.q rfl (QW.move (.tmp rfl)))) ?_
    refine JX.f 3 [21] rfl rfl rfl rfl rfl rfl rfl rfl (fun ow_ => (.q rfl (QW.index_sl sl27 ty29 rfl (.tmp rfl) .const (by first | rfl | omega | (simp; done)) (by first | rfl | assumption)))) ?_
    refine JX.f 4 [22] rfl rfl rfl rfl rfl rfl rfl rfl (fun ow_ => (.q rfl (QW.field_ref fo29_1 (.tmp rfl) rfl))) ?_
    refine JX.f 5 [23] rfl rfl rfl rfl rfl rfl rfl rfl (fun ow_ => (.q rfl (QW.load_ref1 ty22 (.tmp rfl) (V.cs_1 _ _)))) ?_
    refine JX.f 6 [] rfl rfl rfl rfl rfl rfl rfl rfl (fun ow_ => (.q rfl (QW.move (.tmp rfl)))) ?_
    refine JX.f 7 [25] rfl rfl rfl rfl rfl rfl rfl rfl (fun ow_ => (.q rfl (QW.index_sl sl27 ty29 rfl (.tmp rfl) .const (by first | rfl | omega | (simp; done)) (by first | rfl | assumption)))) ?_
    refine JX.f 8 [26] rfl rfl rfl rfl rfl rfl rfl rfl (fun ow_ => (.q rfl (QW.field_ref fo29_1 (.tmp rfl) rfl))) ?_
    refine JX.f 9 [27] rfl rfl rfl rfl rfl rfl rfl rfl (fun ow_ => (.q rfl (QW.load_ref1 ty22 (.tmp rfl) (V.cs_1 _ _)))) ?_
    refine JX.f 10 [20, 24, 28] rfl rfl rfl rfl rfl rfl rfl rfl (fun ow_ => (.q rfl (QW.call gofn72 (.cons (.tmp rfl) (.cons (.tmp rfl) (.cons (.tmp rfl) .nil))) (arith_ok _ _ _)))) ?_
    refine JX.one 11 [true, true, true, true, true, true, true, true, true, true, true] rfl (by kernel_rfl) (by kernel_rfl) rfl rfl (by kernel_rfl) rfl fun bs11_ pe_ ex_ => ?_
    refine JL.conv (by (try simp only [vlF, bxF, tkM, lvM, Flt.val, Flt.bx, List.append_assoc, List.take_succ_cons, List.take_zero, List.append_eq, id_eq, stepsO, List.map_cons, List.map_nil, valO, nthO, curO, mrg, List.reverse_cons, List.reverse_nil, List.nil_append, List.cons_append, List.append_nil, List.getElem?_cons_zero, List.getElem?_cons_succ, Option.map_some, Option.getD_some, List.set_cons_zero, List.set_cons_succ, AV.cellsOf, splice_zero, splice_succ, Nat.zero_add, Nat.reduceAdd]); rfl) ?_
    first | refine JL.store_boxF 0 ty29 (.tmp rfl) rfl (.tmp rfl) (by first | rfl | assumption) (by first | rfl | exact V.cs_length _ _) (by first | rfl | exact V.cs_length _ _) rfl ?_ | refine JL.store_box 0 ty29 (.tmp rfl) rfl (.tmp rfl) (by first | rfl | assumption) (by first | rfl | exact V.cs_length _ _) rfl rfl rfl ?_
    refine JL.nil ?_
    refine thenQ.n ⟨[], _, rfl, rfl, rfl, rfl, rfl, Reown.tkN 2 rfl, trivial, trivial, ?_⟩
    refine JX.conv (S' := [11, 10, 9, 8, 7, 6, 5, 4, 3, 2, 1, 0]) rfl (by (try simp only [lvM]); rfl) (by (try simp only [vlF, bxF, tkM, lvM, Flt.val, Flt.bx, List.append_assoc, List.take_succ_cons, List.take_zero, List.append_eq, id_eq, stepsO, List.map_cons, List.map_nil, valO, nthO, curO, mrg, List.reverse_cons, List.reverse_nil, List.nil_append, List.cons_append, List.append_nil, List.getElem?_cons_zero, List.getElem?_cons_succ, Option.map_some, Option.getD_some, List.set_cons_zero, List.set_cons_succ, AV.cellsOf, splice_zero, splice_succ, Nat.zero_add, Nat.reduceAdd]); rfl) ?_
    refine JX.fin (by kernel_rfl) (by kernel_rfl) fun bs_ => ?_
    refine QX.conv (by (try simp only [vlF, bxF, tkM, lvM, Flt.val, Flt.bx, List.append_assoc, List.take_succ_cons, List.take_zero, List.append_eq, id_eq, stepsO, List.map_cons, List.map_nil, valO, nthO, curO, mrg, List.reverse_cons, List.reverse_nil, List.nil_append, List.cons_append, List.append_nil, List.getElem?_cons_zero, List.getElem?_cons_succ, Option.map_some, Option.getD_some, List.set_cons_zero, List.set_cons_succ, AV.cellsOf, splice_zero, splice_succ, Nat.zero_add, Nat.reduceAdd]); rfl) ?_
    refine thenQ.n ?_
    refine J.ret ?_
    refine blkQ.r ?_
    refine thenQ.r ?_
    exact ⟨_, selP [.k, .k] _, _, RetEv.one rfl (by first | exact REv.cell 0 ty29 rfl rfl rfl rfl (.refl _) | exact REv.cell 0 ty29 rfl rfl (take_at (V.cs_length _ _) rfl) (V.cs_length _ _) (.refl _)), rfl, sel_perm [.k, .k] _, PlR.ok ((pe11 ho t a b).trans (if_neg (by simp [kindsB] at k18; omega)))⟩
  have n13 : ¬ o = 13 := by simpa using c3
  refine J.region_lit ?_
  refine JL.q rfl rfl rfl (QW.eql (.tmp rfl) .const) ?_
  refine JL.q rfl rfl rfl (QW.assign (.tmp rfl)) ?_
  refine JL.nil ?_
  refine thenQ.n ?_
  refine J.cond (.tmp rfl) (fun c4 => ?_) (fun c4 => ?_)
  · skip
    have ho : o = 11 ∨ o = 12 ∨ o = 13 ∨ o = 14 := by (simp at c4; omega)
    obtain ⟨a, b, rfl⟩ := two_of (l := l) (by omega)
    have ha := hl a (by simp)
    have hb := hl b (by simp)
    refine J.seq ?_
    refine J.region_lit ?_
    refine JL.q rfl rfl rfl (QW.move (.tmp rfl)) ?_
    refine JL.q rfl rfl rfl (QW.buildSlice (idx := [0, 1]) (xs := intsAV [2, 2]) sl130 el3 z3 rfl (.cons .const (.cons .const .nil)) rfl rfl rfl rfl rfl rfl rfl rfl rfl) ?_
    refine JL.callPF [] gofn71 rfl Lent.nil (fun _ => (.cons (.tmp rfl) (.cons (.tmp rfl) .nil))) (kinds_ok _ [2, 2] (by simp) (by simp)) (.inl rfl) (fun k18 x18 o18 h18 => ?_) (fun k18 => ?_)
    rotate_left
    · skip
      refine thenQ.p ?_
      refine blkQ.p ?_
      refine thenQ.p ?_
      exact ⟨_, selP [.k, .k] _, _, rfl, rfl, sel_perm [.k, .k] _, PlR.er (c := 81) ((pe11 ho t a b).trans (if_pos (by simp [kindsB] at k18; omega))) (by decide)⟩
    obtain ⟨rfl, rfl⟩ := h18
    refine JL.nil ?_
    refine thenQ.n ?_
    refine J.seq ?_
    refine J.regionX mixed ?_
    refine JX.f 0 [] rfl rfl rfl rfl rfl rfl rfl rfl (fun ow_ => (.q rfl (QW.field_ptr fo34_0 (.tmp rfl) rfl))) ?_
    refine JX.o 1 1 [19] rfl rfl rfl rfl rfl rfl rfl rfl rfl (fun ow_ ho_ => (.q rfl (QW.load_box1 1 ty3 (.tmp rfl) ho_ rfl))) ?_
    refine JX.f 2 [] rfl rfl rfl rfl rfl rfl rfl rfl (fun ow_ => (.q rfl (QW.move (.tmp rfl)))) ?_
    refine JX.f 3 [21] rfl rfl rfl rfl rfl rfl rfl rfl (fun ow_ => (.q rfl (QW.index_sl sl27 ty29 rfl (.tmp rfl) .const (by first | rfl | omega | (simp; done)) (by first | rfl | assumption)))) ?_
    refine JX.f 4 [22] rfl rfl rfl rfl rfl rfl rfl rfl (fun ow_ => (.q rfl (QW.field_ref fo29_1 (.tmp rfl) rfl))) ?_
    refine JX.f 5 [23] rfl rfl rfl rfl rfl rfl rfl rfl (fun ow_ => (.q rfl (QW.load_ref1 ty22 (.tmp rfl) (V.cs_1 _ _)))) ?_
    refine JX.f 6 [] rfl rfl rfl rfl rfl rfl rfl rfl (fun ow_ => (.q rfl (QW.move (.tmp rfl)))) ?_
    refine JX.f 7 [25] rfl rfl rfl rfl rfl rfl rfl rfl (fun ow_ => (.q rfl (QW.index_sl sl27 ty29 rfl (.tmp rfl) .const (by first | rfl | omega | (simp; done)) (by first | rfl | assumption)))) ?_
    refine JX.f 8 [26] rfl rfl rfl rfl rfl rfl rfl rfl (fun ow_ => (.q rfl (QW.field_ref fo29_1 (.tmp rfl) rfl))) ?_
    refine JX.f 9 [27] rfl rfl rfl rfl rfl rfl rfl rfl (fun ow_ => (.q rfl (QW.load_ref1 ty22 (.tmp rfl) (V.cs_1 _ _)))) ?_
    refine JX.f 10 [20, 24, 28] rfl rfl rfl rfl rfl rfl rfl rfl (fun ow_ => (.q rfl (QW.call gofn72 (.cons (.tmp rfl) (.cons (.tmp rfl) (.cons (.tmp rfl) .nil))) (arith_ok _ _ _)))) ?_
    refine JX.one 11 [true, true, true, true, true, true, true, true, true, true, true] rfl (by kernel_rfl) (by kernel_rfl) rfl rfl (by kernel_rfl) rfl fun bs11_ pe_ ex_ => ?_
    refine JL.conv (by (try simp only [vlF, bxF, tkM, lvM, Flt.val, Flt.bx, List.append_assoc, List.take_succ_cons, List.take_zero, List.append_eq, id_eq, stepsO, List.map_cons, List.map_nil, valO, nthO, curO, mrg, List.reverse_cons, List.reverse_nil, List.nil_append, List.cons_append, List.append_nil, List.getElem?_cons_zero, List.getElem?_cons_succ, Option.map_some, Option.getD_some, List.set_cons_zero, List.set_cons_succ, AV.cellsOf, splice_zero, splice_succ, Nat.zero_add, Nat.reduceAdd]); rfl) ?_
    first | refine JL.store_boxF 0 ty29 (.tmp rfl) rfl (.tmp rfl) (by first | rfl | assumption) (by first | rfl | exact V.cs_length _ _) (by first | rfl | exact V.cs_length _ _) rfl ?_ | refine JL.store_box 0 ty29 (.tmp rfl) rfl (.tmp rfl) (by first | rfl | assumption) (by first | rfl | exact V.cs_length _ _) rfl rfl rfl ?_
    refine JL.nil ?_
    refine thenQ.n ⟨[], _, rfl, rfl, rfl, rfl, rfl, Reown.tkN 2 rfl, trivial, trivial, ?_⟩
    refine JX.conv (S' := [11, 10, 9, 8, 7, 6, 5, 4, 3, 2, 1, 0]) rfl (by (try simp only [lvM]); rfl) (by (try simp only [vlF, bxF, tkM, lvM, Flt.val, Flt.bx, List.append_assoc, List.take_succ_cons, List.take_zero, List.append_eq, id_eq, stepsO, List.map_cons, List.map_nil, valO, nthO, curO, mrg, List.reverse_cons, List.reverse_nil, List.nil_append, List.cons_append, List.append_nil, List.getElem?_cons_zero, List.getElem?_cons_succ, Option.map_some, Option.getD_some, List.set_cons_zero, List.set_cons_succ, AV.cellsOf, splice_zero, splice_succ, Nat.zero_add, Nat.reduceAdd]); rfl) ?_
    refine JX.fin (by kernel_rfl) (by kernel_rfl) fun bs_ => ?_
    refine QX.conv (by (try simp only [vlF, bxF, tkM, lvM, Flt.val, Flt.bx, List.append_assoc, List.take_succ_cons, List.take_zero, List.append_eq, id_eq, stepsO, List.map_cons, List.map_nil, valO, nthO, curO, mrg, List.reverse_cons, List.reverse_nil, List.nil_append, List.cons_append, List.append_nil, List.getElem?_cons_zero, List.getElem?_cons_succ, Option.map_some, Option.getD_some, List.set_cons_zero, List.set_cons_succ, AV.cellsOf, splice_zero, splice_succ, Nat.zero_add, Nat.reduceAdd]); rfl) ?_
    refine thenQ.n ?_
    refine J.ret ?_
    refine blkQ.r ?_
    refine thenQ.r ?_
    exact ⟨_, selP [.k, .k] _, _, RetEv.one rfl (by first | exact REv.cell 0 ty29 rfl rfl rfl rfl (.refl _) | exact REv.cell 0 ty29 rfl rfl (take_at (V.cs_length _ _) rfl) (V.cs_length _ _) (.refl _)), rfl, sel_perm [.k, .k] _, PlR.ok ((pe11 ho t a b).trans (if_neg (by simp [kindsB] at k18; omega)))⟩
  have n14 : ¬ o = 14 := by simpa using c4
  refine J.seq ?_
  refine J.region_lit ?_
  refine JL.q rfl rfl rfl (QW.eql (.tmp rfl) .const) ?_
  refine JL.q rfl rfl rfl (QW.assign (.tmp rfl)) ?_
  refine JL.nil ?_
  refine thenQ.n ?_
  refine J.cond (.tmp rfl) (fun c5 => ?_) (fun c5 => ?_)
  · skip
    obtain rfl : o = 15 := by simpa using c5
    obtain ⟨a, rfl⟩ := one_of (l := l) (by omega)
    have ha := hl a (by simp)
    refine J.seq ?_
    refine J.region_lit ?_
    refine JL.q rfl rfl rfl (QW.move (.tmp rfl)) ?_
    refine JL.q rfl rfl rfl (QW.buildSlice (idx := [0]) (xs := intsAV [2]) sl130 el3 z3 rfl (.cons .const .nil) rfl rfl rfl rfl rfl rfl rfl rfl rfl) ?_
    refine JL.callPF [] gofn71 rfl Lent.nil (fun _ => (.cons (.tmp rfl) (.cons (.tmp rfl) .nil))) (kinds_ok _ [2] (by simp) (by simp)) (.inl rfl) (fun k34 x34 o34 h34 => ?_) (fun k34 => ?_)
    rotate_left
    · skip
      refine thenQ.p ?_
      refine blkQ.p ?_
      refine thenQ.p ?_
      exact ⟨_, selP [.k, .k] _, _, rfl, rfl, sel_perm [.k, .k] _, PlR.er (c := 81) ((pe15 t a).trans (if_neg (by simpa [kindsB] using k34))) (by decide)⟩
    obtain ⟨rfl, rfl⟩ := h34
    refine JL.nil ?_
    refine thenQ.n ?_
    refine J.seq ?_
    refine J.region_lit ?_
    refine JL.q rfl rfl rfl (QW.move (.tmp rfl)) ?_
    refine JL.q rfl rfl rfl (QW.index_sl sl27 ty29 rfl (.tmp rfl) .const (by first | rfl | omega | (simp; done)) (by first | rfl | assumption)) ?_
    refine JL.q rfl rfl rfl (QW.field_ref fo29_1 (.tmp rfl) rfl) ?_
    refine JL.q rfl rfl rfl (QW.load_ref1 ty22 (.tmp rfl) (V.cs_1 _ _)) ?_
    refine JL.q rfl rfl rfl (QW.call gofn73 (.cons (.tmp rfl) .nil) (floor_ok _)) ?_
    refine JL.q rfl rfl rfl (QW.call gofn47 (.cons (.tmp rfl) .nil) (nof_ok _)) ?_
    first | refine JL.store_boxF 0 ty29 (.tmp rfl) rfl (.tmp rfl) (by first | rfl | assumption) (by first | rfl | exact V.cs_length _ _) (by first | rfl | exact V.cs_length _ _) rfl ?_ | refine JL.store_box 0 ty29 (.tmp rfl) rfl (.tmp rfl) (by first | rfl | assumption) (by first | rfl | exact V.cs_length _ _) rfl rfl rfl ?_
    refine JL.nil ?_
    refine thenQ.n ?_
    refine J.ret ?_
    refine blkQ.r ?_
    refine thenQ.r ?_
    exact ⟨_, selP [.k, .k] _, _, RetEv.one rfl (by first | exact REv.cell 0 ty29 rfl rfl rfl rfl (.refl _) | exact REv.cell 0 ty29 rfl rfl (take_at (V.cs_length _ _) rfl) (V.cs_length _ _) (.refl _)), rfl, sel_perm [.k, .k] _, PlR.ok ((pe15 t a).trans (if_pos (by simpa [kindsB] using k34)))⟩
  have n15 : ¬ o = 15 := by simpa using c5
  refine J.seq ?_
  refine J.region_lit ?_
  refine JL.q rfl rfl rfl (QW.eql (.tmp rfl) .const) ?_
  refine JL.q rfl rfl rfl (QW.assign (.tmp rfl)) ?_
  refine JL.nil ?_
  refine thenQ.n ?_
  refine J.cond (.tmp rfl) (fun c6 => ?_) (fun c6 => ?_)
  · skip
    obtain rfl : o = 16 := by simpa using c6
    obtain ⟨a, b, rfl⟩ := two_of (l := l) (by omega)
    have ha := hl a (by simp)
    have hb := hl b (by simp)
    refine J.seq ?_
    refine J.regionX mixed ?_
    refine JX.f 0 [] rfl rfl rfl rfl rfl rfl rfl rfl (fun ow_ => (.q rfl (QW.move (.tmp rfl)))) ?_
    refine JX.f 1 [43] rfl rfl rfl rfl rfl rfl rfl rfl (fun ow_ => (.q rfl (QW.index_sl sl27 ty29 rfl (.tmp rfl) .const (by first | rfl | omega | (simp; done)) (by first | rfl | assumption)))) ?_
    refine JX.f 2 [44] rfl rfl rfl rfl rfl rfl rfl rfl (fun ow_ => (.q rfl (by first | exact QW.load_ref ty29 (.tmp rfl) rfl rfl | exact QW.load_ref ty29 (.tmp rfl) (take_at0 (V.cs_length _ _) rfl) (V.cs_length _ _)))) ?_
    refine JX.f 3 [] rfl rfl rfl rfl rfl rfl rfl rfl (fun ow_ => (.q rfl (QW.move (.tmp rfl)))) ?_
    refine JX.f 4 [46] rfl rfl rfl rfl rfl rfl rfl rfl (fun ow_ => (.q rfl (QW.index_sl sl27 ty29 rfl (.tmp rfl) .const (by first | rfl | omega | (simp; done)) (by first | rfl | assumption)))) ?_
    refine JX.f 5 [47] rfl rfl rfl rfl rfl rfl rfl rfl (fun ow_ => (.q rfl (by first | exact QW.load_ref ty29 (.tmp rfl) rfl rfl | exact QW.load_ref ty29 (.tmp rfl) (take_at0 (V.cs_length _ _) rfl) (V.cs_length _ _)))) ?_
    refine JX.f 6 [45, 48] rfl rfl rfl rfl rfl rfl rfl rfl (fun ow_ => (.q rfl (QW.call gofn74 (.cons (.tmp rfl) (.cons (.tmp rfl) .nil)) (vone_ok Vc.self Vc.self ha.wf hb.wf)))) ?_
    refine JX.f 7 [49] rfl rfl rfl rfl rfl rfl rfl rfl (fun ow_ => (.q rfl (QW.call gofn46 (.cons (.tmp rfl) .nil) (boolean_ok _)))) ?_
    refine JX.one 8 [true, true, true, true, true, true, true, true] rfl (by kernel_rfl) (by kernel_rfl) rfl rfl (by kernel_rfl) rfl fun bs8_ pe_ ex_ => ?_
    refine JL.conv (by (try simp only [vlF, bxF, tkM, lvM, Flt.val, Flt.bx, List.append_assoc, List.take_succ_cons, List.take_zero, List.append_eq, id_eq, stepsO, List.map_cons, List.map_nil, valO, nthO, curO, mrg, List.reverse_cons, List.reverse_nil, List.nil_append, List.cons_append, List.append_nil, List.getElem?_cons_zero, List.getElem?_cons_succ, Option.map_some, Option.getD_some, List.set_cons_zero, List.set_cons_succ, AV.cellsOf, splice_zero, splice_succ, Nat.zero_add, Nat.reduceAdd]); rfl) ?_
    first | refine JL.store_boxF 0 ty29 (.tmp rfl) rfl (.tmp rfl) (by first | rfl | assumption) (by first | rfl | exact V.cs_length _ _) (by first | rfl | exact V.cs_length _ _) rfl ?_ | refine JL.store_box 0 ty29 (.tmp rfl) rfl (.tmp rfl) (by first | rfl | assumption) (by first | rfl | exact V.cs_length _ _) rfl rfl rfl ?_
    refine JL.nil ?_
    refine thenQ.n ⟨[], _, rfl, rfl, rfl, rfl, rfl, Reown.tkN 2 rfl, trivial, trivial, ?_⟩
    refine JX.conv (S' := [8, 7, 6, 5, 4, 3, 2, 1, 0]) rfl (by (try simp only [lvM]); rfl) (by (try simp only [vlF, bxF, tkM, lvM, Flt.val, Flt.bx, List.append_assoc, List.take_succ_cons, List.take_zero, List.append_eq, id_eq, stepsO, List.map_cons, List.map_nil, valO, nthO, curO, mrg, List.reverse_cons, List.reverse_nil, List.nil_append, List.cons_append, List.append_nil, List.getElem?_cons_zero, List.getElem?_cons_succ, Option.map_some, Option.getD_some, List.set_cons_zero, List.set_cons_succ, AV.cellsOf, splice_zero, splice_succ, Nat.zero_add, Nat.reduceAdd]); rfl) ?_
    refine JX.fin (by kernel_rfl) (by kernel_rfl) fun bs_ => ?_
    refine QX.conv (by (try simp only [vlF, bxF, tkM, lvM, Flt.val, Flt.bx, List.append_assoc, List.take_succ_cons, List.take_zero, List.append_eq, id_eq, stepsO, List.map_cons, List.map_nil, valO, nthO, curO, mrg, List.reverse_cons, List.reverse_nil, List.nil_append, List.cons_append, List.append_nil, List.getElem?_cons_zero, List.getElem?_cons_succ, Option.map_some, Option.getD_some, List.set_cons_zero, List.set_cons_succ, AV.cellsOf, splice_zero, splice_succ, Nat.zero_add, Nat.reduceAdd]); rfl) ?_
    refine thenQ.n ?_
    refine J.ret ?_
    refine blkQ.r ?_
    refine thenQ.r ?_
    exact ⟨_, selP [.k, .k] _, _, RetEv.one rfl (by first | exact REv.cell 0 ty29 rfl rfl rfl rfl (.refl _) | exact REv.cell 0 ty29 rfl rfl (take_at (V.cs_length _ _) rfl) (V.cs_length _ _) (.refl _)), rfl, sel_perm [.k, .k] _, PlR.ok ((pe16 t a b).trans (by rw [V.one, V.cmp, if_neg (by simp [ha.err]), if_neg (by simp [hb.err])]; simp))⟩
  have n16 : ¬ o = 16 := by simpa using c6
  refine J.seq ?_
  refine J.region_lit ?_
  refine JL.q rfl rfl rfl (QW.eql (.tmp rfl) .const) ?_
  refine JL.q rfl rfl rfl (QW.assign (.tmp rfl)) ?_
  refine JL.nil ?_
  refine thenQ.n ?_
  refine J.cond (.tmp rfl) (fun c7 => ?_) (fun c7 => ?_)
  · skip
    obtain rfl : o = 17 := by simpa using c7
    obtain ⟨a, b, rfl⟩ := two_of (l := l) (by omega)
    have ha := hl a (by simp)
    have hb := hl b (by simp)
    refine J.seq ?_
    refine J.regionX mixed ?_
    refine JX.f 0 [] rfl rfl rfl rfl rfl rfl rfl rfl (fun ow_ => (.q rfl (QW.move (.tmp rfl)))) ?_
    refine JX.f 1 [53] rfl rfl rfl rfl rfl rfl rfl rfl (fun ow_ => (.q rfl (QW.slice_L (l := 1) sl27 ty29 rfl (.tmp rfl) .const rfl (by rw [V.css_length]; simp)))) ?_
    refine JX.f 2 [] rfl rfl rfl rfl rfl rfl rfl rfl (fun ow_ => (.q rfl (QW.move (.tmp rfl)))) ?_
    refine JX.f 3 [55] rfl rfl rfl rfl rfl rfl rfl rfl (fun ow_ => (.q rfl (QW.index_sl sl27 ty29 rfl (.tmp rfl) .const (by first | rfl | omega | (simp; done)) (by first | rfl | assumption)))) ?_
    refine JX.f 4 [56] rfl rfl rfl rfl rfl rfl rfl rfl (fun ow_ => (.q rfl (QW.field_ref fo29_0 (.tmp rfl) rfl))) ?_
    refine JX.f 5 [57] rfl rfl rfl rfl rfl rfl rfl rfl (fun ow_ => (.q rfl (QW.load_ref1 ty3 (.tmp rfl) (V.cs_0 _ _)))) ?_
    refine JX.f 6 [58] rfl rfl rfl rfl rfl rfl rfl rfl (fun ow_ => (.q rfl (QW.buildSlice (idx := [0]) (xs := intsAV [a.kind]) sl130 el3 z3 rfl (.cons (.tmp rfl) .nil) rfl rfl rfl rfl rfl rfl rfl rfl rfl))) ?_
    refine JX.one 7 [true, true, true, true, true, true, true] rfl (by kernel_rfl) (by kernel_rfl) rfl rfl (by kernel_rfl) rfl fun bs7_ pe_ ex_ => ?_
    refine JL.conv (by (try simp only [vlF, bxF, tkM, lvM, Flt.val, Flt.bx, List.append_assoc, List.take_succ_cons, List.take_zero, List.append_eq, id_eq, stepsO, List.map_cons, List.map_nil, valO, nthO, curO, mrg, List.reverse_cons, List.reverse_nil, List.nil_append, List.cons_append, List.append_nil, List.getElem?_cons_zero, List.getElem?_cons_succ, Option.map_some, Option.getD_some, List.set_cons_zero, List.set_cons_succ, AV.cellsOf, splice_zero, splice_succ, Nat.zero_add, Nat.reduceAdd]); rfl) ?_
    refine JL.callPF [] gofn71 rfl Lent.nil (fun _ => (.cons (.tmp rfl) (.cons (.tmp rfl) .nil))) (kinds_ok [b] [a.kind] (by simp) (by simp)) (.inl rfl) (fun k60 x60 o60 h60 => ?_) (fun k60 => ?_)
    rotate_left
    · skip
      refine thenQ.p ?_
      refine thenQ.p ?_
      refine blkQ.p ?_
      refine thenQ.p ?_
      exact ⟨_, selP [.k, .k] _, _, rfl, rfl, sel_perm [.k, .k] _, PlR.er (c := 81) ((pe17 t a b).trans (if_neg (by simpa [kindsB] using k60))) (by decide)⟩
    obtain ⟨rfl, rfl⟩ := h60
    refine JL.nil ?_
    refine thenQ.n ⟨[_], _, rfl, rfl, rfl, rfl, rfl, Reown.mrgN 2 rfl rfl, ⟨rfl, rfl⟩, trivial, ?_⟩
    refine JX.conv (S' := [7, 6, 5, 4, 3, 2, 1, 0]) rfl (by (try simp only [lvM]); rfl) (by (try simp only [vlF, bxF, tkM, lvM, Flt.val, Flt.bx, List.append_assoc, List.take_succ_cons, List.take_zero, List.append_eq, id_eq, stepsO, List.map_cons, List.map_nil, valO, nthO, curO, mrg, List.reverse_cons, List.reverse_nil, List.nil_append, List.cons_append, List.append_nil, List.getElem?_cons_zero, List.getElem?_cons_succ, Option.map_some, Option.getD_some, List.set_cons_zero, List.set_cons_succ, AV.cellsOf, splice_zero, splice_succ, Nat.zero_add, Nat.reduceAdd]); rfl) ?_
    refine JX.fin (by kernel_rfl) (by kernel_rfl) fun bs_ => ?_
    refine QX.conv (by (try simp only [vlF, bxF, tkM, lvM, Flt.val, Flt.bx, List.append_assoc, List.take_succ_cons, List.take_zero, List.append_eq, id_eq, stepsO, List.map_cons, List.map_nil, valO, nthO, curO, mrg, List.reverse_cons, List.reverse_nil, List.nil_append, List.cons_append, List.append_nil, List.getElem?_cons_zero, List.getElem?_cons_succ, Option.map_some, Option.getD_some, List.set_cons_zero, List.set_cons_succ, AV.cellsOf, splice_zero, splice_succ, Nat.zero_add, Nat.reduceAdd]); rfl) ?_
    refine thenQ.n ?_
    refine J.seq ?_
    refine J.regionX mixed ?_
    refine JX.f 0 [] rfl rfl rfl rfl rfl rfl rfl rfl (fun ow_ => (.q rfl (QW.move (.tmp rfl)))) ?_
    refine JX.f 1 [62] rfl rfl rfl rfl rfl rfl rfl rfl (fun ow_ => (.q rfl (QW.index_sl sl27 ty29 rfl (.tmp rfl) .const (by first | rfl | omega | (simp; done)) (by first | rfl | assumption)))) ?_
    refine JX.f 2 [63] rfl rfl rfl rfl rfl rfl rfl rfl (fun ow_ => (.q rfl (by first | exact QW.load_ref ty29 (.tmp rfl) rfl rfl | exact QW.load_ref ty29 (.tmp rfl) (take_at0 (V.cs_length _ _) rfl) (V.cs_length _ _)))) ?_
    refine JX.f 3 [] rfl rfl rfl rfl rfl rfl rfl rfl (fun ow_ => (.q rfl (QW.move (.tmp rfl)))) ?_
    refine JX.f 4 [65] rfl rfl rfl rfl rfl rfl rfl rfl (fun ow_ => (.q rfl (QW.index_sl sl27 ty29 rfl (.tmp rfl) .const (by first | rfl | omega | (simp; done)) (by first | rfl | assumption)))) ?_
    refine JX.f 5 [66] rfl rfl rfl rfl rfl rfl rfl rfl (fun ow_ => (.q rfl (by first | exact QW.load_ref ty29 (.tmp rfl) rfl rfl | exact QW.load_ref ty29 (.tmp rfl) (take_at0 (V.cs_length _ _) rfl) (V.cs_length _ _)))) ?_
    refine JX.f 6 [64, 67] rfl rfl rfl rfl rfl rfl rfl rfl (fun ow_ => (.q rfl (QW.call gofn75 (.cons (.tmp rfl) (.cons (.tmp rfl) .nil)) (vcmp_ok Vc.self Vc.self ha.wf hb.wf)))) ?_
    refine JX.f 7 [68] rfl rfl rfl rfl rfl rfl rfl rfl (fun ow_ => (.q rfl (QW.move (.tmp rfl)))) ?_
    refine JX.f 8 [61] rfl rfl rfl rfl rfl rfl rfl rfl (fun ow_ => (.q rfl (QW.extract (.tmp rfl) rfl))) ?_
    refine JX.f 9 [61] rfl rfl rfl rfl rfl rfl rfl rfl (fun ow_ => (.q rfl (QW.extract (.tmp rfl) rfl))) ?_
    refine JX.f 10 [69] rfl rfl rfl rfl rfl rfl rfl rfl (fun ow_ => (.q rfl (QW.assign (.tmp rfl)))) ?_
    refine JX.f 11 [70] rfl rfl rfl rfl rfl rfl rfl rfl (fun ow_ => (.q rfl (QW.assign (.tmp rfl)))) ?_
    refine JX.fin (by kernel_rfl) (by kernel_rfl) fun bs_ => ?_
    refine QX.conv (by (try simp only [vlF, bxF, tkM, lvM, Flt.val, Flt.bx, List.append_assoc, List.take_succ_cons, List.take_zero, List.append_eq, id_eq, stepsO, List.map_cons, List.map_nil, valO, nthO, curO, mrg, List.reverse_cons, List.reverse_nil, List.nil_append, List.cons_append, List.append_nil, List.getElem?_cons_zero, List.getElem?_cons_succ, Option.map_some, Option.getD_some, List.set_cons_zero, List.set_cons_succ, AV.cellsOf, splice_zero, splice_succ, Nat.zero_add, Nat.reduceAdd]); rfl) ?_
    refine thenQ.n ?_
    refine J.seq ?_
    refine J.region_lit ?_
    refine JL.q rfl rfl rfl (QW.move (.tmp rfl)) ?_
    refine JL.q rfl rfl rfl (QW.lss (.tmp rfl) .const) ?_
    refine JL.q rfl rfl rfl (QW.call gofn46 (.cons (.tmp rfl) .nil) (boolean_ok _)) ?_
    first | refine JL.store_boxF 0 ty29 (.tmp rfl) rfl (.tmp rfl) (by first | rfl | assumption) (by first | rfl | exact V.cs_length _ _) (by first | rfl | exact V.cs_length _ _) rfl ?_ | refine JL.store_box 0 ty29 (.tmp rfl) rfl (.tmp rfl) (by first | rfl | assumption) (by first | rfl | exact V.cs_length _ _) rfl rfl rfl ?_
    refine JL.nil ?_
    refine thenQ.n ?_
    refine J.ret ?_
    refine blkQ.r ?_
    refine thenQ.r ?_
    exact ⟨_, selP [.k, .k] _, _, RetEv.one rfl (by first | exact REv.cell 0 ty29 rfl rfl rfl rfl (.refl _) | exact REv.cell 0 ty29 rfl rfl (take_at (V.cs_length _ _) rfl) (V.cs_length _ _) (.refl _)), rfl, sel_perm [.k, .k] _, PlR.ok ((pe17 t a b).trans (by rw [if_pos (by simpa [kindsB] using k60), V.cmp, if_neg (by simp [ha.err]), if_neg (by simp [hb.err])]))⟩
  have n17 : ¬ o = 17 := by simpa using c7
  refine J.seq ?_
  refine J.region_lit ?_
  refine JL.q rfl rfl rfl (QW.eql (.tmp rfl) .const) ?_
  refine JL.q rfl rfl rfl (QW.assign (.tmp rfl)) ?_
  refine JL.nil ?_
  refine thenQ.n ?_
  refine J.cond (.tmp rfl) (fun c8 => ?_) (fun c8 => ?_)
  · skip
    obtain rfl : o = 20 := by simpa using c8
    obtain ⟨a, rfl⟩ := one_of (l := l) (by omega)
    have ha := hl a (by simp)
    refine J.seq ?_
    refine J.region_lit ?_
    refine JL.q rfl rfl rfl (QW.move (.tmp rfl)) ?_
    refine JL.q rfl rfl rfl (QW.buildSlice (idx := [0]) (xs := intsAV [1]) sl130 el3 z3 rfl (.cons .const .nil) rfl rfl rfl rfl rfl rfl rfl rfl rfl) ?_
    refine JL.callPF [] gofn71 rfl Lent.nil (fun _ => (.cons (.tmp rfl) (.cons (.tmp rfl) .nil))) (kinds_ok _ [1] (by simp) (by simp)) (.inl rfl) (fun k78 x78 o78 h78 => ?_) (fun k78 => ?_)
    rotate_left
    · skip
      refine thenQ.p ?_
      refine blkQ.p ?_
      refine thenQ.p ?_
      exact ⟨_, selP [.k, .k] _, _, rfl, rfl, sel_perm [.k, .k] _, PlR.er (c := 81) ((pe20 t a).trans (if_neg (by simpa [kindsB] using k78))) (by decide)⟩
    obtain ⟨rfl, rfl⟩ := h78
    refine JL.nil ?_
    refine thenQ.n ?_
    refine J.seq ?_
    refine J.region_lit ?_
    refine JL.q rfl rfl rfl (QW.move (.tmp rfl)) ?_
    refine JL.q rfl rfl rfl (QW.index_sl sl27 ty29 rfl (.tmp rfl) .const (by first | rfl | omega | (simp; done)) (by first | rfl | assumption)) ?_
    refine JL.q rfl rfl rfl (QW.field_ref fo29_1 (.tmp rfl) rfl) ?_
    refine JL.q rfl rfl rfl (QW.load_ref1 ty22 (.tmp rfl) (V.cs_1 _ _)) ?_
    refine JL.q rfl rfl rfl ((QW.eql (.tmp rfl) .const).conv (show _ = AV.c (.bool (a.bits == 0)) by rw [show ((a.bits : Int) == 0) = (a.bits == 0) by rw [Bool.eq_iff_iff]; simp])) ?_
    refine JL.q rfl rfl rfl (QW.call gofn46 (.cons (.tmp rfl) .nil) (boolean_ok _)) ?_
    first | refine JL.store_boxF 0 ty29 (.tmp rfl) rfl (.tmp rfl) (by first | rfl | assumption) (by first | rfl | exact V.cs_length _ _) (by first | rfl | exact V.cs_length _ _) rfl ?_ | refine JL.store_box 0 ty29 (.tmp rfl) rfl (.tmp rfl) (by first | rfl | assumption) (by first | rfl | exact V.cs_length _ _) rfl rfl rfl ?_
    refine JL.nil ?_
    refine thenQ.n ?_
    refine J.ret ?_
    refine blkQ.r ?_
    refine thenQ.r ?_
    exact ⟨_, selP [.k, .k] _, _, RetEv.one rfl (by first | exact REv.cell 0 ty29 rfl rfl rfl rfl (.refl _) | exact REv.cell 0 ty29 rfl rfl (take_at (V.cs_length _ _) rfl) (V.cs_length _ _) (.refl _)), rfl, sel_perm [.k, .k] _, PlR.ok ((pe20 t a).trans (if_pos (by simpa [kindsB] using k78)))⟩
  have n20 : ¬ o = 20 := by simpa using c8
  refine J.seq ?_
  refine J.region_lit ?_
  refine JL.q rfl rfl rfl (QW.eql (.tmp rfl) .const) ?_
  refine JL.q rfl rfl rfl (QW.assign (.tmp rfl)) ?_
  refine JL.nil ?_
  refine thenQ.n ?_
  refine J.cond (.tmp rfl) (fun c9 => ?_) (fun c9 => ?_)
  · skip
    obtain rfl : o = 22 := by simpa using c9
    obtain ⟨a, b, rfl⟩ := two_of (l := l) (by omega)
    have ha := hl a (by simp)
    have hb := hl b (by simp)
    have h1 := partOk_txt ha.fine.part
    have h2 := partOk_txt hb.fine.part
    refine J.seq ?_
    refine J.region_lit ?_
    refine JL.q rfl rfl rfl (QW.move (.tmp rfl)) ?_
    refine JL.q rfl rfl rfl (QW.buildSlice (idx := [0, 1]) (xs := intsAV [3, 3]) sl130 el3 z3 rfl (.cons .const (.cons .const .nil)) rfl rfl rfl rfl rfl rfl rfl rfl rfl) ?_
    refine JL.callPF [] gofn71 rfl Lent.nil (fun _ => (.cons (.tmp rfl) (.cons (.tmp rfl) .nil))) (kinds_ok _ [3, 3] (by simp) (by simp)) (.inl rfl) (fun k89 x89 o89 h89 => ?_) (fun k89 => ?_)
    rotate_left
    · skip
      refine thenQ.p ?_
      refine blkQ.p ?_
      refine thenQ.p ?_
      exact ⟨_, selP [.k, .k] _, _, rfl, rfl, sel_perm [.k, .k] _, PlR.er (c := 81) ((pe22 t a b).trans (if_pos (by simp [kindsB] at k89; omega))) (by decide)⟩
    obtain ⟨rfl, rfl⟩ := h89
    refine JL.nil ?_
    refine thenQ.n ?_
    refine J.seq ?_
    refine J.regionX mixed ?_
    refine JX.f 0 [] rfl rfl rfl rfl rfl rfl rfl rfl (fun ow_ => (.q rfl (QW.move (.tmp rfl)))) ?_
    refine JX.f 1 [90] rfl rfl rfl rfl rfl rfl rfl rfl (fun ow_ => (.q rfl (QW.index_sl sl27 ty29 rfl (.tmp rfl) .const (by first | rfl | omega | (simp; done)) (by first | rfl | assumption)))) ?_
    refine JX.f 2 [91] rfl rfl rfl rfl rfl rfl rfl rfl (fun ow_ => (.q rfl (QW.field_ref fo29_2 (.tmp rfl) rfl))) ?_
    refine JX.f 3 [92] rfl rfl rfl rfl rfl rfl rfl rfl (fun ow_ => (.q rfl (QW.load_ref1 ty9 (.tmp rfl) (V.cs_2 _ _)))) ?_
    refine JX.f 4 [93] rfl rfl rfl rfl rfl rfl rfl rfl (fun ow_ => (.q rfl (QW.len_s st9 (.tmp rfl)))) ?_
    refine JX.f 5 [] rfl rfl rfl rfl rfl rfl rfl rfl (fun ow_ => (.q rfl (QW.move (.tmp rfl)))) ?_
    refine JX.f 6 [95] rfl rfl rfl rfl rfl rfl rfl rfl (fun ow_ => (.q rfl (QW.index_sl sl27 ty29 rfl (.tmp rfl) .const (by first | rfl | omega | (simp; done)) (by first | rfl | assumption)))) ?_
    refine JX.f 7 [96] rfl rfl rfl rfl rfl rfl rfl rfl (fun ow_ => (.q rfl (QW.field_ref fo29_2 (.tmp rfl) rfl))) ?_
    refine JX.f 8 [97] rfl rfl rfl rfl rfl rfl rfl rfl (fun ow_ => (.q rfl (QW.load_ref1 ty9 (.tmp rfl) (V.cs_2 _ _)))) ?_
    refine JX.f 9 [98] rfl rfl rfl rfl rfl rfl rfl rfl (fun ow_ => (.q rfl (QW.len_s st9 (.tmp rfl)))) ?_
    refine JX.f 10 [94, 99] rfl rfl rfl rfl rfl rfl rfl rfl (fun ow_ => (.q rfl (QW.add (.tmp rfl) (.tmp rfl) (w64 (by omega))))) ?_
    refine JX.f 11 [100] rfl rfl rfl rfl rfl rfl rfl rfl (fun ow_ => (.q rfl (QW.leq (.tmp rfl) .const))) ?_
    refine JX.one 12 [true, true, true, true, true, true, true, true, true, true, true, true] rfl (by kernel_rfl) (by kernel_rfl) rfl rfl (by kernel_rfl) rfl fun bs12_ pe_ ex_ => ?_
    refine JL.conv (by (try simp only [vlF, bxF, tkM, lvM, Flt.val, Flt.bx, List.append_assoc, List.take_succ_cons, List.take_zero, List.append_eq, id_eq, stepsO, List.map_cons, List.map_nil, valO, nthO, curO, mrg, List.reverse_cons, List.reverse_nil, List.nil_append, List.cons_append, List.append_nil, List.getElem?_cons_zero, List.getElem?_cons_succ, Option.map_some, Option.getD_some, List.set_cons_zero, List.set_cons_succ, AV.cellsOf, splice_zero, splice_succ, Nat.zero_add, Nat.reduceAdd]); rfl) ?_
    refine JL.callPF [] gofn45 rfl Lent.nil (fun _ => (.cons (.tmp rfl) (.cons .const .nil))) (nd_ok _ _) (.inl rfl) (fun k102 x102 o102 h102 => ?_) (fun k102 => ?_)
    rotate_left
    · skip
      refine thenQ.p ?_
      refine thenQ.p ?_
      refine blkQ.p ?_
      refine thenQ.p ?_
      exact ⟨_, selP [.k, .k] _, _, rfl, rfl, sel_perm [.k, .k] _, PlR.er (c := 84) (by rw [pe22, if_neg (by simp [kindsB] at k89; omega), if_pos (by simp at k102; omega)]) (by decide)⟩
    obtain ⟨rfl, rfl⟩ := h102
    refine JL.nil ?_
    refine thenQ.n ⟨[_], _, rfl, rfl, rfl, rfl, rfl, Reown.mrgN 2 rfl rfl, ⟨rfl, rfl⟩, trivial, ?_⟩
    refine JX.conv (S' := [12, 11, 10, 9, 8, 7, 6, 5, 4, 3, 2, 1, 0]) rfl (by (try simp only [lvM]); rfl) (by (try simp only [vlF, bxF, tkM, lvM, Flt.val, Flt.bx, List.append_assoc, List.take_succ_cons, List.take_zero, List.append_eq, id_eq, stepsO, List.map_cons, List.map_nil, valO, nthO, curO, mrg, List.reverse_cons, List.reverse_nil, List.nil_append, List.cons_append, List.append_nil, List.getElem?_cons_zero, List.getElem?_cons_succ, Option.map_some, Option.getD_some, List.set_cons_zero, List.set_cons_succ, AV.cellsOf, splice_zero, splice_succ, Nat.zero_add, Nat.reduceAdd]); rfl) ?_
    refine JX.fin (by kernel_rfl) (by kernel_rfl) fun bs_ => ?_
    refine QX.conv (by (try simp only [vlF, bxF, tkM, lvM, Flt.val, Flt.bx, List.append_assoc, List.take_succ_cons, List.take_zero, List.append_eq, id_eq, stepsO, List.map_cons, List.map_nil, valO, nthO, curO, mrg, List.reverse_cons, List.reverse_nil, List.nil_append, List.cons_append, List.append_nil, List.getElem?_cons_zero, List.getElem?_cons_succ, Option.map_some, Option.getD_some, List.set_cons_zero, List.set_cons_succ, AV.cellsOf, splice_zero, splice_succ, Nat.zero_add, Nat.reduceAdd]); rfl) ?_
    refine thenQ.n ?_
    refine J.seq ?_
    refine J.regionX mixed ?_
    refine JX.f 0 [] rfl rfl rfl rfl rfl rfl rfl rfl (fun ow_ => (.q rfl (QW.move (.tmp rfl)))) ?_
    refine JX.f 1 [103] rfl rfl rfl rfl rfl rfl rfl rfl (fun ow_ => (.q rfl (QW.index_sl sl27 ty29 rfl (.tmp rfl) .const (by first | rfl | omega | (simp; done)) (by first | rfl | assumption)))) ?_
    refine JX.f 2 [104] rfl rfl rfl rfl rfl rfl rfl rfl (fun ow_ => (.q rfl (QW.field_ref fo29_2 (.tmp rfl) rfl))) ?_
    refine JX.f 3 [105] rfl rfl rfl rfl rfl rfl rfl rfl (fun ow_ => (.q rfl (QW.load_ref1 ty9 (.tmp rfl) (V.cs_2 _ _)))) ?_
    refine JX.f 4 [] rfl rfl rfl rfl rfl rfl rfl rfl (fun ow_ => (.q rfl (QW.move (.tmp rfl)))) ?_
    refine JX.f 5 [107] rfl rfl rfl rfl rfl rfl rfl rfl (fun ow_ => (.q rfl (QW.index_sl sl27 ty29 rfl (.tmp rfl) .const (by first | rfl | omega | (simp; done)) (by first | rfl | assumption)))) ?_
    refine JX.f 6 [108] rfl rfl rfl rfl rfl rfl rfl rfl (fun ow_ => (.q rfl (QW.field_ref fo29_2 (.tmp rfl) rfl))) ?_
    refine JX.f 7 [109] rfl rfl rfl rfl rfl rfl rfl rfl (fun ow_ => (.q rfl (QW.load_ref1 ty9 (.tmp rfl) (V.cs_2 _ _)))) ?_
    refine JX.f 8 [106, 110] rfl rfl rfl rfl rfl rfl rfl rfl (fun ow_ => (.q rfl (QW.add_s (.tmp rfl) (.tmp rfl) (by omega)))) ?_
    refine JX.f 9 [111] rfl rfl rfl rfl rfl rfl rfl rfl (fun ow_ => (.q rfl (QW.build (idx := [0, 2]) pl29 z29 rfl (.cons .const (.cons (.tmp rfl) .nil)) rfl rfl rfl rfl))) ?_
    refine JX.one 10 [true, true, true, true, true, true, true, true, true, true] rfl (by kernel_rfl) (by kernel_rfl) rfl rfl (by kernel_rfl) rfl fun bs10_ pe_ ex_ => ?_
    refine JL.conv (by (try simp only [vlF, bxF, tkM, lvM, Flt.val, Flt.bx, List.append_assoc, List.take_succ_cons, List.take_zero, List.append_eq, id_eq, stepsO, List.map_cons, List.map_nil, valO, nthO, curO, mrg, List.reverse_cons, List.reverse_nil, List.nil_append, List.cons_append, List.append_nil, List.getElem?_cons_zero, List.getElem?_cons_succ, Option.map_some, Option.getD_some, List.set_cons_zero, List.set_cons_succ, AV.cellsOf, splice_zero, splice_succ, Nat.zero_add, Nat.reduceAdd]); rfl) ?_
    first | refine JL.store_boxF 0 ty29 (.tmp rfl) rfl (.tmp rfl) (by first | rfl | assumption) (by first | rfl | exact V.cs_length _ _) (by first | rfl | exact V.cs_length _ _) rfl ?_ | refine JL.store_box 0 ty29 (.tmp rfl) rfl (.tmp rfl) (by first | rfl | assumption) (by first | rfl | exact V.cs_length _ _) rfl rfl rfl ?_
    refine JL.nil ?_
    refine thenQ.n ⟨[], _, rfl, rfl, rfl, rfl, rfl, Reown.tkN 2 rfl, trivial, trivial, ?_⟩
    refine JX.conv (S' := [10, 9, 8, 7, 6, 5, 4, 3, 2, 1, 0]) rfl (by (try simp only [lvM]); rfl) (by (try simp only [vlF, bxF, tkM, lvM, Flt.val, Flt.bx, List.append_assoc, List.take_succ_cons, List.take_zero, List.append_eq, id_eq, stepsO, List.map_cons, List.map_nil, valO, nthO, curO, mrg, List.reverse_cons, List.reverse_nil, List.nil_append, List.cons_append, List.append_nil, List.getElem?_cons_zero, List.getElem?_cons_succ, Option.map_some, Option.getD_some, List.set_cons_zero, List.set_cons_succ, AV.cellsOf, splice_zero, splice_succ, Nat.zero_add, Nat.reduceAdd]); rfl) ?_
    refine JX.fin (by kernel_rfl) (by kernel_rfl) fun bs_ => ?_
    refine QX.conv (by (try simp only [vlF, bxF, tkM, lvM, Flt.val, Flt.bx, List.append_assoc, List.take_succ_cons, List.take_zero, List.append_eq, id_eq, stepsO, List.map_cons, List.map_nil, valO, nthO, curO, mrg, List.reverse_cons, List.reverse_nil, List.nil_append, List.cons_append, List.append_nil, List.getElem?_cons_zero, List.getElem?_cons_succ, Option.map_some, Option.getD_some, List.set_cons_zero, List.set_cons_succ, AV.cellsOf, splice_zero, splice_succ, Nat.zero_add, Nat.reduceAdd]); rfl) ?_
    refine thenQ.n ?_
    refine J.ret ?_
    refine blkQ.r ?_
    refine thenQ.r ?_
    exact ⟨_, selP [.k, .k] _, _, RetEv.one rfl (by first | exact REv.cell 0 ty29 rfl rfl rfl rfl (.aggL (.cons (.refl _) (.cons (.refl _) (.cons (.refl _) (.cons (.nil false false _) (.cons (.nil false false _) .nil)))))) | exact REv.cell 0 ty29 rfl rfl (take_at (V.cs_length _ _) rfl) (V.cs_length _ _) (.aggL (.cons (.refl _) (.cons (.refl _) (.cons (.refl _) (.cons (.nil false false _) (.cons (.nil false false _) .nil))))))), rfl, sel_perm [.k, .k] _, PlR.ok (v := .tx (a.text ++ b.text)) (by rw [pe22, if_neg (by simp [kindsB] at k89; omega), if_neg (by simp at k102; omega)])⟩
  have n22 : ¬ o = 22 := by simpa using c9
  refine J.seq ?_
  refine J.region_lit ?_
  refine JL.q rfl rfl rfl (QW.eql (.tmp rfl) .const) ?_
  refine JL.q rfl rfl rfl (QW.assign (.tmp rfl)) ?_
  refine JL.nil ?_
  refine thenQ.n ?_
  refine J.cond (.tmp rfl) (fun c10 => ?_) (fun c10 => ?_)
  · skip
    obtain rfl : o = 26 := by simpa using c10
    obtain ⟨a, rfl⟩ := one_of (l := l) (by omega)
    have ha := hl a (by simp)
    refine J.seq ?_
    refine J.region_lit ?_
    refine JL.q rfl rfl rfl (QW.move (.tmp rfl)) ?_
    refine JL.q rfl rfl rfl (QW.buildSlice (idx := [0]) (xs := intsAV [2]) sl130 el3 z3 rfl (.cons .const .nil) rfl rfl rfl rfl rfl rfl rfl rfl rfl) ?_
    refine JL.callPF [] gofn71 rfl Lent.nil (fun _ => (.cons (.tmp rfl) (.cons (.tmp rfl) .nil))) (kinds_ok _ [2] (by simp) (by simp)) (.inl rfl) (fun k117 x117 o117 h117 => ?_) (fun k117 => ?_)
    rotate_left
    · skip
      refine thenQ.p ?_
      refine blkQ.p ?_
      refine thenQ.p ?_
      exact ⟨_, selP [.k, .k] _, _, rfl, rfl, sel_perm [.k, .k] _, PlR.er (c := 81) ((pe26 t a).trans (if_pos (by simpa [kindsB] using k117))) (by decide)⟩
    obtain ⟨rfl, rfl⟩ := h117
    refine JL.nil ?_
    refine thenQ.n ?_
    refine J.seq ?_
    refine J.region_lit ?_
    refine JL.q rfl rfl rfl (QW.move (.tmp rfl)) ?_
    refine JL.q rfl rfl rfl (QW.index_sl sl27 ty29 rfl (.tmp rfl) .const (by first | rfl | omega | (simp; done)) (by first | rfl | assumption)) ?_
    refine JL.q rfl rfl rfl (QW.field_ref fo29_1 (.tmp rfl) rfl) ?_
    refine JL.q rfl rfl rfl (QW.load_ref1 ty22 (.tmp rfl) (V.cs_1 _ _)) ?_
    refine JL.q rfl rfl rfl (QW.call gofn76 (.cons (.tmp rfl) .nil) (digits_ok _ ha.bits)) ?_
    refine JL.q rfl rfl rfl (QW.move (.tmp rfl)) ?_
    refine JL.q rfl rfl rfl (QW.extract (.tmp rfl) rfl) ?_
    refine JL.q rfl rfl rfl (QW.extract (.tmp rfl) rfl) ?_
    refine JL.q rfl rfl rfl (QW.assign (.tmp rfl)) ?_
    refine JL.q rfl rfl rfl (QW.assign (.tmp rfl)) ?_
    refine JL.nil ?_
    refine thenQ.n ?_
    refine J.seq ?_
    refine J.region_lit ?_
    refine JL.q rfl rfl rfl (QW.move (.tmp rfl)) ?_
    refine JL.q rfl rfl rfl (QW.eql (.tmp rfl) .const) ?_
    refine JL.q rfl rfl rfl (QW.move (.tmp rfl)) ?_
    refine JL.callPF [] gofn45 rfl Lent.nil (fun _ => (.cons (.tmp rfl) (.cons (.tmp rfl) .nil))) (nd_ok _ _) (.inl rfl) (fun k129 x129 o129 h129 => ?_) (fun k129 => ?_)
    rotate_left
    · skip
      refine thenQ.p ?_
      refine blkQ.p ?_
      refine thenQ.p ?_
      have h7 : ¬ intE a.bits = 0 := fun h => k129 (by simp [h])
      exact ⟨_, selP [.k, .k] _, _, rfl, rfl, sel_perm [.k, .k] _, PlR.er (c := if intE a.bits = 0 then 0 else 7) (by rw [pe26, if_neg (by simpa [kindsB] using k117), if_pos h7, if_neg h7]) (by rw [if_neg h7]; decide)⟩
    obtain ⟨rfl, rfl⟩ := h129
    refine JL.nil ?_
    refine thenQ.n ?_
    refine J.seq ?_
    refine J.region_lit ?_
    refine JL.q rfl rfl rfl (QW.move (.tmp rfl)) ?_
    refine JL.q rfl rfl rfl (QW.build (idx := [0, 2]) pl29 z29 rfl (.cons .const (.cons (.tmp rfl) .nil)) rfl rfl rfl rfl) ?_
    first | refine JL.store_boxF 0 ty29 (.tmp rfl) rfl (.tmp rfl) (by first | rfl | assumption) (by first | rfl | exact V.cs_length _ _) (by first | rfl | exact V.cs_length _ _) rfl ?_ | refine JL.store_box 0 ty29 (.tmp rfl) rfl (.tmp rfl) (by first | rfl | assumption) (by first | rfl | exact V.cs_length _ _) rfl rfl rfl ?_
    refine JL.nil ?_
    refine thenQ.n ?_
    refine J.ret ?_
    refine blkQ.r ?_
    refine thenQ.r ?_
    have h7 : intE a.bits = 0 := Decidable.byContradiction fun h => by simp [h] at k129
    exact ⟨_, selP [.k, .k] _, _, RetEv.one rfl (by first | exact REv.cell 0 ty29 rfl rfl rfl rfl (.aggL (.cons (.refl _) (.cons (.refl _) (.cons (.refl _) (.cons (.nil false false _) (.cons (.nil false false _) .nil)))))) | exact REv.cell 0 ty29 rfl rfl (take_at (V.cs_length _ _) rfl) (V.cs_length _ _) (.aggL (.cons (.refl _) (.cons (.refl _) (.cons (.refl _) (.cons (.nil false false _) (.cons (.nil false false _) .nil))))))), rfl, sel_perm [.k, .k] _, PlR.ok (v := .tx (if intE a.bits = 0 then intD (intV a.bits) else [])) (by rw [pe26, if_neg (by simpa [kindsB] using k117), if_neg (by simp [h7]), if_pos h7])⟩
  have n26 : ¬ o = 26 := by simpa using c10
  refine J.skip ?_
  refine blkQ.n ?_
  refine thenQ.n ?_
  refine J.seq ?_
  refine J.region_lit ?_
  refine JL.q rfl rfl rfl (by first | exact QW.load_box 1 ty34 (.tmp rfl) rfl rfl rfl | exact QW.load_box 1 ty34 (.tmp rfl) rfl (take_at (EX.cs_length _ _) rfl) (EX.cs_length _ _)) ?_
  refine JL.q rfl rfl rfl (QW.move (.tmp rfl)) ?_
  refine JL.callPF [] gofn77 rfl Lent.nil (fun _ => (.cons (.tmp rfl) (.cons (.tmp rfl) .nil))) (lists_ok Xc.mk ht hl ⟨hn8, by omega⟩) (.inl rfl) (fun k134 x134 o134 h134 => ?_) (fun k134 => ?_)
  rotate_left
  · skip
    refine thenQ.p ?_
    exact ⟨_, selP [.k, .k] _, _, rfl, rfl, sel_perm [.k, .k] _, PanR.pan k134⟩
  obtain ⟨v134, hv134, rfl, rfl⟩ := h134
  first | refine JL.store_boxF 0 ty29 (.tmp rfl) rfl (.tmp rfl) (by first | rfl | assumption) (by first | rfl | exact V.cs_length _ _) (by first | rfl | exact V.cs_length _ _) rfl ?_ | refine JL.store_box 0 ty29 (.tmp rfl) rfl (.tmp rfl) (by first | rfl | assumption) (by first | rfl | exact V.cs_length _ _) rfl rfl rfl ?_
  refine JL.nil ?_
  refine thenQ.n ?_
  refine J.ret ?_
  exact ⟨_, selP [.k, .k] _, _, RetEv.one rfl (by first | exact REv.cell 0 ty29 rfl rfl rfl rfl (.refl _) | exact REv.cell 0 ty29 rfl rfl (take_at (V.cs_length _ _) rfl) (V.cs_length _ _) (.refl _)), rfl, sel_perm [.k, .k] _, PlR.ok hv134⟩
end Go.Proofs.YtjhonjdhanlbkaaGreat.J

/- Two loud operations that no order binds. -/
namespace Go.Proofs.YtjhonjdhanlbkaaGreat.J
open Go Go.RowKit
def blk2B (l : List Oper) (S Φ : List Nat) (i1 i2 : Nat) : Bool := (List.range l.length).all fun j => memB j S || memB j Φ || (Nat.beq j i1 || Nat.beq j i2) || (match l[j]? with
  | some o => o.after.toList.any fun e => Region.binds .any e && !memB e.on S && !memB e.on Φ
  | none => true)
section
variable {P : Program} {E : Ent} {Q : Exit → St → Prop} {n : Nat} {env : List (Nat × AV)} {own : List Own} {F : List (Value × AV)} {D : List Deferred} {ops : Array Oper}
theorem Ev.constA {st : St} {vs : List Value} (h : vs.all (·.oneCell') = true) : Ev E st (.const (.agg vs.toArray)) (.agg (vs.map .c)) := fun A a w _ =>
  .agg _ _ (fun k => vs.getD k undef) (by simp) (fun k y hk => by
    rw [List.getElem?_map] at hk
    obtain ⟨z, hz, rfl⟩ := Option.map_eq_some_iff.1 hk
    have := (List.all_eq_true.1 h) z (List.mem_of_getElem? hz)
    exact ⟨by simp [hz, List.getD], by simpa [hz, List.getD] using this⟩) (fun k y hk => by
    rw [List.getElem?_map] at hk
    obtain ⟨z, hz, rfl⟩ := Option.map_eq_some_iff.1 hk
    rw [show vs.getD k undef = z by simp [hz, List.getD]]; exact .c z)
def CandX (P : Program) (E : Ent) (Q : Exit → St → Prop) (n : Nat) (env : List (Nat × AV)) (own : List Own) (F : List (Value × AV)) (D : List Deferred) (ops : Array Oper) (S : List Nat) (Φ : List Flt) (i : Nat) : Prop :=
  ∃ (ms : List Bool) (o : Oper), ops[i]? = some o ∧ memB i S = false ∧ memB i (Φ.map (·.i)) = false ∧ lndB ops.toList o [] ((tkM ms Φ).map (·.i)) = true ∧ (lvM ms Φ).all (·.fre) = true ∧
    ∀ bs pe ex, JL P E ops [o] ⟨n, vlF bs (tkM ms Φ) ++ (env ++ pe), own ++ (bxF bs (tkM ms Φ) ++ ex), F, D⟩ (thenQ (fun s => ∃ ev env' own', s.n = n ∧ s.env = env' ++ pe ∧ s.facts = F ∧ s.dfs = D ∧ env' = ev ++ (vlF bs (tkM ms Φ) ++ env) ∧ ev.all (fun p => o.dst == some p.1) = true ∧ Reown s.own (own' ++ ex) ∧
      (match o.dst with | some d => (Φ.all fun φ => !Nat.beq φ.d d) = true ∧ lk env d = none | none => True) ∧ okO own' (lvM ms Φ) ∧ JX P E ops (i :: ((tkM ms Φ).map (·.i) ++ S)) (lvM ms Φ) ⟨n, env', own', F, D⟩ Q) Q)
theorem CandX.mk {S : List Nat} {Φ : List Flt} (i : Nat) (ms : List Bool) {o : Oper} (ho : ops[i]? = some o) (hS : memB i S = false) (hΦ : memB i (Φ.map (·.i)) = false)
    (hlnd : lndB ops.toList o [] ((tkM ms Φ).map (·.i)) = true) (hfre : (lvM ms Φ).all (·.fre) = true)
    (h : ∀ bs pe ex, JL P E ops [o] ⟨n, vlF bs (tkM ms Φ) ++ (env ++ pe), own ++ (bxF bs (tkM ms Φ) ++ ex), F, D⟩ (thenQ (fun s => ∃ ev own', s.n = n ∧ s.env = ev ++ (vlF bs (tkM ms Φ) ++ (env ++ pe)) ∧ s.facts = F ∧ s.dfs = D ∧ ev.all (fun p => o.dst == some p.1) = true ∧ Reown s.own (own' ++ ex) ∧
      (match o.dst with | some d => (Φ.all fun φ => !Nat.beq φ.d d) = true ∧ lk env d = none | none => True) ∧ okO own' (lvM ms Φ) ∧ JX P E ops (i :: ((tkM ms Φ).map (·.i) ++ S)) (lvM ms Φ) ⟨n, ev ++ (vlF bs (tkM ms Φ) ++ env), own', F, D⟩ Q) Q)) : CandX P E Q n env own F D ops S Φ i :=
  ⟨ms, o, ho, hS, hΦ, hlnd, hfre, fun bs pe ex a w hs => by
    have := h bs pe ex a w hs
    refine wpListIn_monoN this fun a' w' ⟨s, ⟨ev, own', h1, h2, h3, h4, h5, h6, h7, h8, h9⟩, hs'⟩ => ⟨s, ⟨ev, _, own', h1, by rw [h2]; simp, h3, h4, rfl, h5, h6, h7, h8, h9⟩, hs'⟩⟩
theorem jxPair {S : List Nat} {Φ : List Flt} (i1 i2 : Nat) (hbk : backB 0 ops.toList = true) (hblk : blk2B ops.toList S (Φ.map (·.i)) i1 i2 = true) (h1 : CandX P E Q n env own F D ops S Φ i1) (h2 : CandX P E Q n env own F D ops S Φ i2) :
    JX P E ops S Φ ⟨n, env, own, F, D⟩ Q := fun hw hF => by
  have hall : ∀ i, i = i1 ∨ i = i2 → CandX P E Q n env own F D ops S Φ i := fun i h => h.elim (fun e => e ▸ h1) (fun e => e ▸ h2)
  obtain ⟨ms0, o0, ho0, hS0, hΦ0, -, -, -⟩ := h1
  have hlt0 : i1 < ops.size := (Array.getElem?_eq_some_iff.1 ho0).1
  intro fuel
  induction fuel with
  | zero =>
    intro L bs A a w hc hcf
    exfalso
    have hi : L.getD i1 true = false := by
      rw [getD_same (by rw [hcf.size]; exact hlt0)]
      exact hcf.no i1 (fun h => by rw [memB_iff.2 h] at hS0; cases hS0) fun φ hφ he => by rw [memB_iff.2 (List.mem_map.2 ⟨φ, hφ, he⟩)] at hΦ0; cases hΦ0
    have := List.countP_eq_zero.1 (Nat.le_zero.1 hc) i1 (by simpa using hlt0)
    simp [hi] at this
  | succ fuel ih =>
    intro L bs A a w hc hcf
    have hundone : L.getD i1 false = false := hcf.no i1 (fun h => by rw [memB_iff.2 h] at hS0; cases hS0) fun φ hφ he => by rw [memB_iff.2 (List.mem_map.2 ⟨φ, hφ, he⟩)] at hΦ0; cases hΦ0
    refine ⟨fun hr => ?_, fun j hj => ?_⟩
    · exfalso
      have key : ∀ j, j < ops.size → L.getD j false = true := by
        intro j
        induction j using Nat.strongRecOn with
        | _ j ihj =>
          intro hjl
          cases hL : L.getD j false with
          | true => rfl
          | false =>
            exfalso
            obtain ⟨oj, hoj⟩ : ∃ oj, ops[j]? = some oj := ⟨_, Array.getElem?_eq_getElem hjl⟩
            have : j ∈ Region.ready .any ops L := ready_mem hcf.size hoj (by rw [getD_same (by rw [hcf.size]; exact hjl)]; exact hL) fun e he hb => by
              have hon := backB_lt hbk (i := j) (o := oj) (by simpa using hoj) e he hb
              exact ihj e.on (by omega) (by omega)
            rw [hr] at this
            cases this
      rw [key i1 hlt0] at hundone; cases hundone
    · obtain ⟨hjl, oj, hoj, hunj, hdeps⟩ := mem_ready hj
      have hunj' : L.getD j false = false := by rw [← getD_same (by rw [hcf.size]; exact hjl)]; exact hunj
      by_cases hjΦ : ∃ φ ∈ Φ, φ.i = j
      · obtain ⟨φ, hφ, rfl⟩ := hjΦ
        exact hcf.run hw hF hφ hunj' hjl (fun o' ho' => by rw [hoj] at ho'; cases ho'; exact hdeps) fun bs' A' a' w' hcf' => ih _ bs' A' a' w' (cnt_run hcf.size hjl hunj hc) hcf'
      · have hji : j = i1 ∨ j = i2 := by
          by_cases he : j = i1 ∨ j = i2
          · exact he
          · exfalso
            have h1 := List.all_eq_true.1 hblk j (by simpa using hjl)
            have h2 : memB j S = false := by
              cases hb : memB j S with
              | false => rfl
              | true => rw [hcf.yes j (memB_iff.1 hb)] at hunj'; cases hunj'
            have h3 : memB j (Φ.map (·.i)) = false := by
              cases hb : memB j (Φ.map (·.i)) with
              | false => rfl
              | true =>
                obtain ⟨φ, hφ, hφi⟩ := List.mem_map.1 (memB_iff.1 hb)
                exact absurd ⟨φ, hφ, hφi⟩ hjΦ
            have h4 : (Nat.beq j i1 || Nat.beq j i2) = false := by
              cases hb : (Nat.beq j i1 || Nat.beq j i2) with
              | false => rfl
              | true => exact absurd ((Bool.or_eq_true _ _ ▸ hb).imp Nat.eq_of_beq_eq_true Nat.eq_of_beq_eq_true) he
            have h5 : ops.toList[j]? = some oj := by simpa using hoj
            rw [h2, h3, h4, h5] at h1
            simp only [Bool.false_or] at h1
            obtain ⟨e, he, hb⟩ := List.any_eq_true.1 h1
            simp only [Bool.and_eq_true, Bool.not_eq_true'] at hb
            have h6 := hdeps e (by simpa using he) hb.1.1
            rw [hcf.no e.on (fun h => by rw [memB_iff.2 h] at hb; simp at hb) fun φ hφ hφi => by
              have := hb.2
              rw [memB_iff.2 (List.mem_map.2 ⟨φ, hφ, hφi⟩)] at this; cases this] at h6
            cases h6
        obtain ⟨ms, o, ho, hS, hΦ, hlnd, hfre, h⟩ := hall j hji
        have hp := tl_perm ms Φ
        have hlt := hjl
        have hoo : o = oj := by rw [ho] at hoj; cases hoj; rfl
        rw [← hoo] at hdeps
        clear hoj
        -- what it waits for has been done
        have hland : ∀ φ ∈ tkM ms Φ, L.getD φ.i false = true := fun φ hφ => lndB_done hcf.clo hdeps _ _ (fun o' h => by cases h) hlnd φ.i (List.mem_map.2 ⟨φ, hφ, rfl⟩)
        have hmem : ∀ φ, φ ∈ Φ ↔ φ ∈ tkM ms Φ ∨ φ ∈ lvM ms Φ := fun φ => by rw [hp.mem_iff, List.mem_append]
        obtain ⟨pe, hpe⟩ : ∃ pe, pe = vlF bs ((lvM ms Φ).filter fun φ => L.getD φ.i false) := ⟨_, rfl⟩
        have hndd : ((tkM ms Φ ++ lvM ms Φ).map (·.d)).Nodup := (hp.map _).nodup_iff.1 hw.ndd
        rw [List.map_append, List.nodup_append] at hndd
        have hnd : ((tkM ms Φ ++ lvM ms Φ).map (·.i)).Nodup := (hp.map _).nodup_iff.1 hw.nd
        rw [List.map_append, List.nodup_append] at hnd
        have hsat0 : SatA E A ⟨n, vlF bs (tkM ms Φ) ++ (env ++ pe), own ++ (bxF bs (tkM ms Φ) ++ exF L bs (lvM ms Φ)), F, D⟩ a w := by
          have h1 := hcf.sat.perm (List.Perm.append_left own ((exF_perm (L := L) (bs := bs) hp).trans (by rw [exF_append, exF_done hland])))
          refine ⟨h1.size, h1.defers, h1.keep, h1.hp, fun s x hl => ?_, h1.facts⟩
          rcases lk_vlF hl with ⟨φ, hφ, rfl, rfl⟩ | hl
          · exact hcf.val φ ((hmem φ).2 (.inl hφ)) (hland φ hφ)
          · rw [lk_append] at hl
            rcases hl with hl | ⟨_, hl⟩
            · exact hcf.sat.env s x hl
            · rw [hpe] at hl
              rcases lk_vlF (env := []) (by rw [List.append_nil]; exact hl) with ⟨φ, hφ, rfl, rfl⟩ | hl
              · rw [List.mem_filter] at hφ
                exact hcf.val φ ((hmem φ).2 (.inr hφ.1)) hφ.2
              · simp [lk] at hl
        have hl := h bs pe (exF L bs (lvM ms Φ)) a w ⟨A, hsat0⟩
        have hK : ∀ a' w', wpListIn (fen E.rd) 0 P ops (lift E (thenQ (fun s => ∃ ev env' own', s.n = n ∧ s.env = env' ++ pe ∧ s.facts = F ∧ s.dfs = D ∧ env' = ev ++ (vlF bs (tkM ms Φ) ++ env) ∧ ev.all (fun p => o.dst == some p.1) = true ∧ Reown s.own (own' ++ exF L bs (lvM ms Φ)) ∧
            (match o.dst with | some d => (Φ.all fun φ => !Nat.beq φ.d d) = true ∧ lk env d = none | none => True) ∧ okO own' (lvM ms Φ) ∧ JX P E ops (j :: ((tkM ms Φ).map (·.i) ++ S)) (lvM ms Φ) ⟨n, env', own', F, D⟩ Q) Q)) [] a' w' → wpAnyIn (fen E.rd) 0 P .any ops (lift E Q) fuel (L.setIfInBounds j true) a' w' := by
          rintro a' w' ⟨⟨n', env2, own2, F', D'⟩, ⟨ev, env', own', rfl, rfl, rfl, rfl, rfl, hev, hre, hdd, hoO, hX⟩, A', hsA⟩
          have hevd : ∀ s x, lk ev s = some x → o.dst = some s := fun s x hl' => by
            have := List.all_eq_true.1 hev _ (lk_mem _ _ _ hl')
            simpa using this
          have hlts : j < L.size := by rw [hcf.size]; exact hlt
          have hset : ∀ z, (L.setIfInBounds j true).getD z false = if z = j then true else L.getD z false := fun z => getD_set _ _ _ hlts _
          have hnot : ∀ φ ∈ Φ, φ.i ≠ j := fun φ hφ he => by rw [memB_iff.2 (List.mem_map.2 ⟨φ, hφ, he⟩)] at hΦ; cases hΦ
          have hevΦ : ∀ φ ∈ Φ, lk ev φ.d = none := fun φ hφ => by
            cases hle : lk ev φ.d with
            | none => rfl
            | some x =>
              have hd' := hevd _ _ hle
              rw [hd'] at hdd
              have := List.all_eq_true.1 hdd.1 φ hφ
              simp at this
          have hold : ∀ s y, lk env s = some y → lk (ev ++ (vlF bs (tkM ms Φ) ++ env)) s = some y := fun s y hl' => by
            rw [lk_append]
            have h1 : lk ev s = none := by
              cases hle : lk ev s with
              | none => rfl
              | some x =>
                have hd' := hevd _ _ hle
                rw [hd'] at hdd
                simp only at hdd
                rw [hdd.2] at hl'; cases hl'
            refine .inr ⟨h1, ?_⟩
            rw [lk_vlF_none fun φ hφ he => ?_]
            · exact hl'
            · rw [← he, hw.ne φ ((hmem φ).2 (.inl hφ))] at hl'; cases hl'
          have hexs : exF (L.setIfInBounds j true) bs (lvM ms Φ) = exF L bs (lvM ms Φ) := exF_congr fun φ hφ => ⟨by rw [hset, if_neg (hnot φ ((hmem φ).2 (.inr hφ)))], rfl⟩
          refine hX ⟨hnd.2.1, hndd.2.1, fun φ hφ hm => ?_, fun φ hφ => ?_⟩ (fun φ hφ => ?_) fuel _ bs A' a' w' (cnt_run hcf.size hlt hunj hc) ⟨by simpa using hcf.size, fun z hz => ?_, fun z hz1 hz2 => ?_, fun z oz hoz hLz e he hb => ?_, ?_, fun φ hφ hLφ => ?_⟩
          · rcases List.mem_cons.1 hm with hm | hm
            · exact hnot φ ((hmem φ).2 (.inr hφ)) hm
            · rcases List.mem_append.1 hm with hm | hm
              · exact hnd.2.2 _ hm _ (List.mem_map.2 ⟨φ, hφ, rfl⟩) rfl
              · exact hw.ns φ ((hmem φ).2 (.inr hφ)) hm
          · have hφΦ := (hmem φ).2 (.inr hφ)
            show lk (ev ++ (vlF bs (tkM ms Φ) ++ env)) φ.d = none
            cases hle : lk (ev ++ (vlF bs (tkM ms Φ) ++ env)) φ.d with
            | none => rfl
            | some y =>
              rw [lk_append] at hle
              rcases hle with hle | ⟨_, hle⟩
              · rw [hevΦ φ hφΦ] at hle; cases hle
              · rw [lk_vlF_none fun ψ hψ he => hndd.2.2 _ (List.mem_map.2 ⟨ψ, hψ, rfl⟩) _ (List.mem_map.2 ⟨φ, hφ, rfl⟩) he] at hle
                rw [hw.ne φ hφΦ] at hle; cases hle
          · obtain ⟨o', ho', hd', hdn', hm'⟩ := hF φ ((hmem φ).2 (.inr hφ))
            refine ⟨o', ho', hd', hdn', ?_⟩
            split at hm'
            · exact hm'
            · obtain ⟨e, he, _, hs⟩ := hm'
              refine ⟨e, fun s y hl' => ?_, okO_get hoO φ hφ, fun own2 _ hO2 => hs own2 (fun hf => ?_) hO2⟩
              · rcases he s y hl' with h1 | ⟨ψ, hψ, rfl, hψv, hψd⟩
                · exact .inl (hold s y h1)
                · rcases (hmem ψ).1 hψ with hψ' | hψ'
                  · left
                    rw [lk_append]
                    refine .inr ⟨hevΦ ψ hψ, ?_⟩
                    rw [lk_vlF_mem hndd.1 hψ']
                    unfold Flt.val
                    rw [hψv]
                  · exact .inr ⟨ψ, hψ', rfl, hψv, hψd⟩
              · have := List.all_eq_true.1 hfre φ hφ
                rw [hf] at this; cases this
          · rw [hset]
            split
            · rfl
            · rename_i hne
              rcases List.mem_cons.1 hz with hz | hz
              · exact absurd hz hne
              · rcases List.mem_append.1 hz with hz | hz
                · obtain ⟨φ, hφ, rfl⟩ := List.mem_map.1 hz
                  exact hland φ hφ
                · exact hcf.yes z hz
          · rw [hset, if_neg (fun h => hz1 (by simp [h]))]
            refine hcf.no z (fun h => hz1 (by simp [h])) fun φ hφ he => ?_
            rcases (hmem φ).1 hφ with h' | h'
            · exact hz1 (by rw [← he]; exact List.mem_cons_of_mem _ (List.mem_append_left _ (List.mem_map.2 ⟨φ, h', rfl⟩)))
            · exact hz2 φ h' he
          · rw [hset] at hLz ⊢
            split
            · rfl
            · by_cases hzj : z = j
              · subst hzj; rw [ho] at hoz; cases hoz; exact hdeps e he hb
              · rw [if_neg hzj] at hLz; exact hcf.clo z oz hoz hLz e he hb
          · rw [hexs]
            exact ⟨hsA.size, hsA.defers, hsA.keep, hsA.hp.reown hre, fun s y hl' => hsA.env s y (by rw [lk_append]; exact .inl hl'), hsA.facts⟩
          · rw [hset, if_neg (hnot φ ((hmem φ).2 (.inr hφ)))] at hLφ
            refine hsA.env φ.d (φ.val bs) ?_
            have hφΦ := (hmem φ).2 (.inr hφ)
            rw [lk_append]
            refine .inr ⟨?_, ?_⟩
            · show lk (ev ++ (vlF bs (tkM ms Φ) ++ env)) φ.d = none
              cases hle : lk (ev ++ (vlF bs (tkM ms Φ) ++ env)) φ.d with
              | none => rfl
              | some y =>
                rw [lk_append] at hle
                rcases hle with hle | ⟨_, hle⟩
                · rw [hevΦ φ hφΦ] at hle; cases hle
                · rw [lk_vlF_none fun ψ hψ he => hndd.2.2 _ (List.mem_map.2 ⟨ψ, hψ, rfl⟩) _ (List.mem_map.2 ⟨φ, hφ, rfl⟩) he] at hle
                  rw [hw.ne φ hφΦ] at hle; cases hle
            · rw [hpe]
              have := lk_vlF_mem (bs := bs) (env := []) (Φ := (lvM ms Φ).filter fun φ => L.getD φ.i false) (φ := φ) ((List.filter_sublist.map _).nodup hndd.2.1) (List.mem_filter.2 ⟨hφ, hLφ⟩)
              rwa [List.append_nil] at this
        unfold wpOpIn
        simp only [ho]
        unfold wpListIn at hl
        split
        · rename_i hw'
          rw [if_pos hw'] at hl
          exact Oper.wpIn_monoQ (fun ch a w h => lift_q (by intro h; cases h) h) (fun h => by first | exact fun a w => lift_q (by intro h; cases h) (h a w) | exact h) (Oper.wpIn_mono hK hl)
        · rename_i hw'
          rw [if_neg hw'] at hl
          exact ⟨hl.1, hK _ _ hl.2⟩
end
end Go.Proofs.YtjhonjdhanlbkaaGreat.J

/- Walks: the machine: what an expression tells, items of a list. -/
namespace Go.Proofs.YtjhonjdhanlbkaaGreat.J
open Go Go.RowKit
set_option maxRecDepth 10000
set_option maxHeartbeats 4000000
def mb (b : Nat) (s : ScT) (f : Int) : Own := .box b (s.st.cs false ++ s.ev.cs false ++ s.it.cs false ++ [.c (.int .i64 f)])
theorem mb_at {s : ScT} {f : Int} (k : Nat) (h : k ≤ 2 := by decide) : ((s.st.cs false ++ s.ev.cs false ++ s.it.cs false ++ [AV.c (.int .i64 f)]).drop (5 * k)).take 5 = (match k with | 0 => s.st | 1 => s.ev | _ => s.it).cs false := by
  obtain ⟨⟨k1, b1, t1, ks1, is1⟩, ⟨k2, b2, t2, ks2, is2⟩, ⟨k3, b3, t3, ks3, is3⟩⟩ := s
  match k, h with
  | 0, _ => rfl
  | 1, _ => rfl
  | 2, _ => rfl
theorem mb_fuel {s : ScT} {f : Int} : (s.st.cs false ++ s.ev.cs false ++ s.it.cs false ++ [AV.c (.int .i64 f)])[15]? = some (.c (.int .i64 f)) := by
  obtain ⟨⟨k1, b1, t1, ks1, is1⟩, ⟨k2, b2, t2, ks2, is2⟩, ⟨k3, b3, t3, ks3, is3⟩⟩ := s; rfl
theorem mb_len {s : ScT} {f : Int} : (s.st.cs false ++ s.ev.cs false ++ s.it.cs false ++ [AV.c (.int .i64 f)]).length = 16 := by
  simp [V.cs_length]
theorem mb_setf {s : ScT} {f g : Int} : splice (s.st.cs false ++ s.ev.cs false ++ s.it.cs false ++ [AV.c (.int .i64 f)]) 15 [.c (.int .i64 g)] = s.st.cs false ++ s.ev.cs false ++ s.it.cs false ++ [AV.c (.int .i64 g)] := by
  obtain ⟨⟨k1, b1, t1, ks1, is1⟩, ⟨k2, b2, t2, ks2, is2⟩, ⟨k3, b3, t3, ks3, is3⟩⟩ := s; rfl
theorem mb_setit {s : ScT} {f : Int} {x : V} : splice (s.st.cs false ++ s.ev.cs false ++ s.it.cs false ++ [AV.c (.int .i64 f)]) 10 (x.cs false) = s.st.cs false ++ s.ev.cs false ++ x.cs false ++ [AV.c (.int .i64 f)] := by
  obtain ⟨⟨k1, b1, t1, ks1, is1⟩, ⟨k2, b2, t2, ks2, is2⟩, ⟨k3, b3, t3, ks3, is3⟩⟩ := s
  obtain ⟨k4, b4, t4, ks4, is4⟩ := x; rfl
def pb (b : Nat) : AV := .c (.pointer (some ⟨b, 0, none⟩))
def okF (f : Int) : Prop := 0 ≤ f ∧ f ≤ 4611686018427387904
def EvR (r : ER V) (b : Nat) (s : ScT) : Res → List Own → Prop := PanR (errE r = 0) (errV (errE r)) fun x o => ∃ v f', r = .ok (v, f') ∧ x = .agg (v.cs false) ∧ o = [mb b s f']
def TrR (r : ER Bool) (b : Nat) (s : ScT) : Res → List Own → Prop := PanR (errE r = 0) (errV (errE r)) fun x o => ∃ t f', r = .ok (t, f') ∧ x = .c (.bool t) ∧ o = [mb b s f']
theorem EvR.ok {r : ER V} {b : Nat} {s : ScT} {v : V} {f' : Int} (h : r = .ok (v, f')) : EvR r b s (.ret (.agg (v.cs false))) [mb b s f'] := .inl ⟨by rw [h]; rfl, _, rfl, v, f', h, rfl, rfl⟩
theorem EvR.er {r : ER V} {b : Nat} {s : ScT} {c : Int} (h : r = .error c) (hc : ¬ c = 0) : EvR r b s (.pan (.iface 38 (.int .i64 c))) [] := .inr ⟨by rw [h]; exact hc, by rw [h]; rfl, rfl⟩
theorem TrR.ok {r : ER Bool} {b : Nat} {s : ScT} {t : Bool} {f' : Int} (h : r = .ok (t, f')) : TrR r b s (.ret (.c (.bool t))) [mb b s f'] := .inl ⟨by rw [h]; rfl, _, rfl, t, f', h, rfl, rfl⟩
theorem TrR.er {r : ER Bool} {b : Nat} {s : ScT} {c : Int} (h : r = .error c) (hc : ¬ c = 0) : TrR r b s (.pan (.iface 38 (.int .i64 c))) [] := .inr ⟨by rw [h]; exact hc, by rw [h]; rfl, rfl⟩
theorem er_of {α : Type} {r : Except Int α} (h : ¬ errE r = 0) : r = .error (errE r) := by
  cases r with
  | ok _ => exact absurd rfl h
  | error c => rfl
def EvIH (n : Nat) : Prop := ∀ (e : EX) (s : ScT) (f : Int) (b : Nat) (fr : Bool), e.wf → e.Fine → s.good → okF f → e.sz ≤ n → AC Tryz.prog 33 [mb b s f] [pb b, .agg (e.cs fr)] (EvR (e.ev s f) b s)
theorem truE_er {r : ER V} {c : Int} (h : r = .error c) : truE r = .error c := by rw [h]; rfl
theorem truE_no {r : ER V} {v : V} {f : Int} (h : r = .ok (v, f)) (hk : ¬ v.kind = 1) : truE r = .error 81 := by rw [h]; exact if_neg hk
theorem truE_yes {r : ER V} {v : V} {f : Int} (h : r = .ok (v, f)) (hk : v.kind = 1) : truE r = .ok (v.bits == 1, f) := by rw [h]; exact if_pos hk
def itE {β : Type} (stp : β → V → Int → Except Int (Bool × β × Int)) : List V → β → Int → Except Int (β × Int)
  | [], σ, f => .ok (σ, f)
  | x :: r, σ, f => match stp σ x f with
    | .error e => .error e
    | .ok (k, σ', f') => if k then itE stp r σ' f' else .ok (σ', f')
def itemsE {β : Type} (stp : β → V → Int → Except Int (Bool × β × Int)) (σ : β) (r : ER V) : Except Int (β × Int) := match r with
  | .error e => .error e
  | .ok (v, f) => if v.kind ≠ 4 then .error 81 else itE stp v.items σ f
theorem itE_drop {β : Type} {stp : β → V → Int → Except Int (Bool × β × Int)} {l : List V} {j : Nat} (h : j < l.length) (σ : β) (f : Int) : itE stp (l.drop j) σ f = match stp σ l[j] f with
    | .error e => .error e
    | .ok (k, σ', f') => if k then itE stp (l.drop (j + 1)) σ' f' else .ok (σ', f') := by
  rw [List.drop_eq_getElem_cons h, itE]
theorem itE_bad {β : Type} {stp : β → V → Int → Except Int (Bool × β × Int)} {l : List V} {j : Nat} {σ : β} {f c : Int} (h : j < l.length) (hc : stp σ l[j] f = .error c) : itE stp (l.drop j) σ f = .error c := by rw [itE_drop h, hc]
theorem itE_ok {β : Type} {stp : β → V → Int → Except Int (Bool × β × Int)} {l : List V} {j : Nat} {σ σ' : β} {f f' : Int} {k : Bool} (h : j < l.length) (hc : stp σ l[j] f = .ok (k, σ', f')) : itE stp (l.drop j) σ f = if k then itE stp (l.drop (j + 1)) σ' f' else .ok (σ', f') := by rw [itE_drop h, hc]
theorem mtruth_ok {n : Nat} (ih : EvIH n) {e : EX} {s : ScT} {f : Int} {b : Nat} {fr : Bool} {ys : List AV} (he : Xc fr e ys) (hw : e.wf) (hf : e.Fine) (hs : s.good) (h0 : okF f) (hn : e.sz ≤ n) :
    AC Tryz.prog 48 [mb b s f] [pb b, .agg ys] (TrR (truE (e.ev s f)) b s) := by
  subst he
  refine AC.of_J Tryz.func48 rfl Tryz.ntmps48 rfl fun w0 A0 => ?_
  refine J.seq ?_
  refine J.region_lit ?_
  refine JL.box_agg (.tmp rfl) rfl fun b3 => ?_
  refine JL.q rfl rfl rfl (QW.assign .const) ?_
  refine JL.nil ?_
  refine thenQ.n ?_
  refine J.seq ?_
  refine J.region_lit ?_
  refine JL.q rfl rfl rfl (QW.move (.tmp rfl)) ?_
  refine JL.q rfl rfl rfl (by first | exact QW.load_box 0 ty34 (.tmp rfl) rfl rfl rfl | exact QW.load_box 0 ty34 (.tmp rfl) rfl (take_at (EX.cs_length _ _) rfl) (EX.cs_length _ _)) ?_
  refine JL.callPF [.k, .p] gofn33 rfl Lent.nil (fun _ => (.cons (.tmp rfl) (.cons (.tmp rfl) .nil))) (ih e s f b fr hw hf hs h0 hn) (.inl rfl) (fun k8 x8 o8 h8 => ?_) (fun k8 => ?_)
  rotate_left
  · skip
    refine thenQ.p ?_
    exact ⟨_, selP [.k] _, _, rfl, rfl, sel_perm [.k] _, TrR.er (truE_er (er_of k8)) k8⟩
  obtain ⟨v8, f8, hv8, rfl, rfl⟩ := h8
  refine JL.alloc z29 rfl rfl fun b5 => ?_
  first | refine JL.store_boxF 0 ty29 (.tmp rfl) rfl (.tmp rfl) (by first | rfl | assumption) (by first | rfl | exact V.cs_length _ _) (by first | rfl | exact V.cs_length _ _) rfl ?_ | refine JL.store_box 0 ty29 (.tmp rfl) rfl (.tmp rfl) (by first | rfl | assumption) (by first | rfl | exact V.cs_length _ _) rfl rfl rfl ?_
  refine JL.nil ?_
  refine thenQ.n ?_
  refine J.seq ?_
  refine J.region_lit ?_
  obtain ⟨vk, vb, vt, vks, vis⟩ := v8
  refine JL.q rfl rfl rfl (QW.field_ptr fo29_0 (.tmp rfl) rfl) ?_
  refine JL.q rfl rfl rfl (QW.load_box1 0 ty3 (.tmp rfl) rfl rfl) ?_
  refine JL.q rfl rfl rfl (QW.eql (.tmp rfl) .const) ?_
  refine JL.callPF [] gofn45 rfl Lent.nil (fun _ => (.cons (.tmp rfl) (.cons .const .nil))) (nd_ok _ _) (.inl rfl) (fun k12 x12 o12 h12 => ?_) (fun k12 => ?_)
  rotate_left
  · skip
    refine thenQ.p ?_
    exact ⟨_, selP [.k, .k, .k] _, _, rfl, rfl, sel_perm [.k, .k, .k] _, TrR.er (c := 81) (truE_no hv8 (by show ¬ vk = 1; simpa using k12)) (by decide)⟩
  obtain ⟨rfl, rfl⟩ := h12
  refine JL.nil ?_
  refine thenQ.n ?_
  refine J.seq ?_
  refine J.region_lit ?_
  refine JL.q rfl rfl rfl (QW.field_ptr fo29_1 (.tmp rfl) rfl) ?_
  refine JL.q rfl rfl rfl (QW.load_box1 0 ty22 (.tmp rfl) rfl rfl) ?_
  refine JL.q rfl rfl rfl (QW.eql (.tmp rfl) .const) ?_
  refine JL.q rfl rfl rfl (QW.assign (.tmp rfl)) ?_
  refine JL.nil ?_
  refine thenQ.n ?_
  refine J.ret ?_
  exact ⟨_, selP [.k, .k, .p] _, _, RetEv.one rfl (REv.tmp rfl (.refl _)), rfl, sel_perm [.k, .k, .p] _, TrR.ok ((truE_yes hv8 (by show vk = 1; simpa using k12)).trans (by rw [V.bits, show (((vb : Nat) : Int) == 1) = (vb == 1) by rw [Bool.eq_iff_iff]; simp; omega]))⟩
def BodyC {β : Type} (n : Nat) (g : FuncId) (ca : List Value) (W : Nat → β → Own → Prop) (stp : β → V → Int → Except Int (Bool × β × Int)) (b : Nat) (s : ScT) : Prop :=
  ∀ (j : Nat) (σ : β) (x : V) (f : Int) (o0 : Own), j < 32 → W j σ o0 → x.good → okF f → AC Tryz.prog g [mb b { s with it := x } f, o0] (.agg (x.cs false) :: ca.map AV.c)
    (PanR (errE (stp σ x f) = 0) (errV (errE (stp σ x f))) fun y o => ∃ k σ' f' o1, stp σ x f = .ok (k, σ', f') ∧ okF f' ∧ W (j + 1) σ' o1 ∧ y = .c (.bool k) ∧ o = [mb b { s with it := x } f', o1])
def ItR {β : Type} (W : Nat → β → Own → Prop) (r : Except Int (β × Int)) (b : Nat) (s : ScT) : Res → List Own → Prop := PanR (errE r = 0) (errV (errE r)) fun x o => ∃ σ f' j o1, r = .ok (σ, f') ∧ j ≤ 32 ∧ W j σ o1 ∧ okF f' ∧ x = .tup [] ∧ o = [mb b s f', o1]
theorem ItR.er {β : Type} {W : Nat → β → Own → Prop} {r : Except Int (β × Int)} {b : Nat} {s : ScT} {c : Int} (h : r = .error c) (hc : ¬ c = 0) : ItR W r b s (.pan (.iface 38 (.int .i64 c))) [] := .inr ⟨by rw [h]; exact hc, by rw [h]; rfl, rfl⟩
theorem ItR.ok {β : Type} {W : Nat → β → Own → Prop} {r : Except Int (β × Int)} {b : Nat} {s : ScT} {σ : β} {f' : Int} {j : Nat} {o1 : Own} (h : r = .ok (σ, f')) (hj : j ≤ 32) (hI : W j σ o1) (hf : okF f') : ItR W r b s (.ret (.tup [])) [mb b s f', o1] := .inl ⟨by rw [h]; rfl, _, rfl, σ, f', j, o1, h, hj, hI, hf, rfl, rfl⟩
theorem itemsE_er {β : Type} {stp : β → V → Int → Except Int (Bool × β × Int)} {σ : β} {r : ER V} {c : Int} (h : r = .error c) : itemsE stp σ r = .error c := by rw [h]; rfl
theorem itemsE_no {β : Type} {stp : β → V → Int → Except Int (Bool × β × Int)} {σ : β} {r : ER V} {v : V} {f : Int} (h : r = .ok (v, f)) (hk : ¬ v.kind = 4) : itemsE stp σ r = .error 81 := by rw [h]; exact if_pos hk
theorem itemsE_yes {β : Type} {stp : β → V → Int → Except Int (Bool × β × Int)} {σ : β} {r : ER V} {v : V} {f : Int} (h : r = .ok (v, f)) (hk : v.kind = 4) : itemsE stp σ r = itE stp v.items σ f := by rw [h]; exact if_neg (fun h => h hk)
theorem ev_okF {e : EX} {s : ScT} {f f' : Int} {v : V} (hw : e.wf) (hf : e.Fine) (hs : s.good) (h0 : okF f) (h : e.ev s f = .ok (v, f')) : v.good ∧ okF f' := by
  obtain ⟨a1, a2, a3⟩ := EX.ev_good e s f hf hw hs v f' h
  exact ⟨a1, a3, by have := h0.2; omega⟩
theorem mitems_ok {β : Type} {n : Nat} {g : FuncId} {ca : List Value} {W : Nat → β → Own → Prop} {stp : β → V → Int → Except Int (Bool × β × Int)} (ih : EvIH n) (hgo : goFn Tryz.prog g = true) {e : EX} {s : ScT} {f : Int} {b : Nat} {fr : Bool} {ys : List AV} (hg : BodyC n g ca W stp b s) (he : Xc fr e ys) (hw : e.wf) (hf : e.Fine) (hs : s.good) (h0 : okF f) (hn : e.sz ≤ n) {σ0 : β} {o0 : Own} (hI : W 0 σ0 o0) :
    AC Tryz.prog 66 [mb b s f, o0] [pb b, .agg ys, .c (.func (.func g) #[] ca.toArray)] (ItR W (itemsE stp σ0 (e.ev s f)) b s) := by
  subst he
  refine AC.of_J Tryz.func66 rfl Tryz.ntmps66 rfl fun w0 A0 => ?_
  refine J.seq ?_
  refine J.region_lit ?_
  refine JL.box_agg (.tmp rfl) rfl fun b4 => ?_
  refine JL.nil ?_
  refine thenQ.n ?_
  refine J.seq ?_
  refine J.region_lit ?_
  refine JL.q rfl rfl rfl (QW.move (.tmp rfl)) ?_
  refine JL.q rfl rfl rfl (by first | exact QW.load_box 0 ty34 (.tmp rfl) rfl rfl rfl | exact QW.load_box 0 ty34 (.tmp rfl) rfl (take_at (EX.cs_length _ _) rfl) (EX.cs_length _ _)) ?_
  refine JL.callPF [.k, .p] gofn33 rfl Lent.nil (fun _ => (.cons (.tmp rfl) (.cons (.tmp rfl) .nil))) (ih e s f b fr hw hf hs h0 hn) (.inl rfl) (fun k12 x12 o12 h12 => ?_) (fun k12 => ?_)
  rotate_left
  · skip
    refine thenQ.p ?_
    exact ⟨_, selP [.k, .k] _, _, rfl, rfl, sel_perm [.k, .k] _, ItR.er (itemsE_er (er_of k12)) k12⟩
  obtain ⟨v12, f12, hv12, rfl, rfl⟩ := h12
  obtain ⟨hgv, hfv⟩ := ev_okF hw hf hs h0 hv12
  obtain ⟨vk, vb, vt, vks, vis⟩ := v12
  have hlen : vis.length ≤ 32 := hgv.len
  refine JL.alloc z29 rfl rfl fun b6 => ?_
  first | refine JL.store_boxF 0 ty29 (.tmp rfl) rfl (.tmp rfl) (by first | rfl | assumption) (by first | rfl | exact V.cs_length _ _) (by first | rfl | exact V.cs_length _ _) rfl ?_ | refine JL.store_box 0 ty29 (.tmp rfl) rfl (.tmp rfl) (by first | rfl | assumption) (by first | rfl | exact V.cs_length _ _) rfl rfl rfl ?_
  refine JL.nil ?_
  refine thenQ.n ?_
  refine J.seq ?_
  refine J.region_lit ?_
  refine JL.q rfl rfl rfl (QW.field_ptr fo29_0 (.tmp rfl) rfl) ?_
  refine JL.q rfl rfl rfl (QW.load_box1 0 ty3 (.tmp rfl) rfl rfl) ?_
  refine JL.q rfl rfl rfl (QW.eql (.tmp rfl) .const) ?_
  refine JL.callPF [] gofn45 rfl Lent.nil (fun _ => (.cons (.tmp rfl) (.cons .const .nil))) (nd_ok _ _) (.inl rfl) (fun k16 x16 o16 h16 => ?_) (fun k16 => ?_)
  rotate_left
  · skip
    refine thenQ.p ?_
    exact ⟨_, selP [.k, .k, .k, .k] _, _, rfl, rfl, sel_perm [.k, .k, .k, .k] _, ItR.er (c := 81) (itemsE_no hv12 (by show ¬ vk = 4; simpa using k16)) (by decide)⟩
  obtain ⟨rfl, rfl⟩ := h16
  refine JL.nil ?_
  refine thenQ.n ?_
  refine J.seq ?_
  refine J.region_lit ?_
  refine JL.q rfl rfl rfl (QW.move (.tmp rfl)) ?_
  refine JL.q rfl rfl rfl (QW.nil_ptr (.tmp rfl)) ?_
  refine JL.q rfl rfl rfl (QW.field_ptr fo69_0 (.tmp rfl) rfl) ?_
  refine JL.q rfl rfl rfl (QW.field_ptr fo36_2 (.tmp rfl) rfl) ?_
  refine JL.q rfl rfl rfl (QW.load_box 2 ty29 (.tmp rfl) rfl (mb_at 2) (V.cs_length _ _)) ?_
  refine JL.alloc z29 rfl rfl fun b7 => ?_
  first | refine JL.store_boxF 0 ty29 (.tmp rfl) rfl (.tmp rfl) (by first | rfl | assumption) (by first | rfl | exact V.cs_length _ _) (by first | rfl | exact V.cs_length _ _) rfl ?_ | refine JL.store_box 0 ty29 (.tmp rfl) rfl (.tmp rfl) (by first | rfl | assumption) (by first | rfl | exact V.cs_length _ _) rfl rfl rfl ?_
  refine JL.nil ?_
  refine thenQ.n ?_
  refine J.seq ?_
  refine J.seq ?_
  refine J.region_lit ?_
  refine JL.q rfl rfl rfl (QW.field_ptr fo29_4 (.tmp rfl) rfl) ?_
  refine JL.q rfl rfl rfl (QW.load_box1 1 ty27 (.tmp rfl) rfl rfl) ?_
  refine JL.q rfl rfl rfl (by first | exact QW.len_slE sl27 (.tmp rfl) (V.css_length _ _) | exact QW.len_sl sl27 (.tmp rfl) | exact QW.len_nil sl27 (.tmp rfl)) ?_
  refine JL.q rfl rfl rfl (QW.move .const) ?_
  refine JL.nil ?_
  refine thenQ.n ?_
  refine J.block ?_
  refine J.loopK (ι := Nat × β × Int × V × Own) [0, 2, 7, 23, 24] (fun ⟨j, σ, g1, it, o⟩ => [(25, .c (.int .i64 (j : Int)))]) (fun ⟨j, σ, g1, it, o⟩ oo => List.set (List.set oo 3 (mb b { s with it := it } g1)) 4 (o)) (fun ⟨j, σ, g1, it, o⟩ => j ≤ vis.length ∧ itE stp vis σ0 f12 = itE stp (vis.drop j) σ g1 ∧ W j σ o ∧ okF g1) (fun ⟨j, σ, g1, it, o⟩ => vis.length - j) ⟨0, σ0, f12, s.it, o0⟩ (⟨Nat.zero_le _, rfl, hI, hfv⟩) (Wk.re (.cons rfl (.refl _) (.cons rfl (.refl _) (.cons rfl (.refl _) (.cons rfl (.refl _) (.cons rfl (.refl _) (.cons rfl (.refl _) .nil)))))) (Reown.refl _) (fun _ h => by first | exact h | simp [h])) ?_
  intro ⟨j, σ, f, it, o⟩ ⟨hj, hit, hIj, hfj⟩
  refine J.conv (by (try simp only [id_eq, stepsO, List.map_cons, List.map_nil, valO, nthO, curO, mrg, List.reverse_cons, List.reverse_nil, List.nil_append, List.cons_append, List.append_nil, List.getElem?_cons_zero, List.getElem?_cons_succ, Option.map_some, Option.getD_some, List.set_cons_zero, List.set_cons_succ, AV.cellsOf, splice_zero, splice_succ, Nat.zero_add, Nat.reduceAdd]); rfl) ?_
  refine J.seq ?_
  refine J.region_lit ?_
  refine JL.q rfl rfl rfl (QW.lss (.tmp rfl) (.tmp rfl)) ?_
  refine JL.nil ?_
  refine thenQ.n ?_
  refine J.seq ?_
  refine J.cond (.tmp rfl) (fun c1 => ?_) (fun c1 => ?_)
  · skip
    have hlt : j < vis.length := by simpa [V.css_length] using c1
    have hj32 : j < 32 := by omega
    have hgx : vis[j].good := hgv.kid (List.getElem_mem hlt)
    refine J.skip ?_
    refine thenQ.n ?_
    refine J.seq ?_
    refine J.block ?_
    refine J.seq ?_
    refine J.region_lit ?_
    refine JL.q rfl rfl rfl (QW.index_sl sl27 ty29 rfl (.tmp rfl) (.tmp rfl) (by first | rfl | omega | (simp; done)) (by exact V.css_getE _ hlt)) ?_
    refine JL.q rfl rfl rfl (by first | exact QW.load_ref ty29 (.tmp rfl) rfl rfl | exact QW.load_ref ty29 (.tmp rfl) (take_at0 (V.cs_length _ _) rfl) (V.cs_length _ _)) ?_
    refine JL.alloc z29 rfl rfl fun b9 => ?_
    first | refine JL.store_boxF 0 ty29 (.tmp rfl) rfl (.tmp rfl) (by first | rfl | assumption) (by first | rfl | exact V.cs_length _ _) (by first | rfl | exact V.cs_length _ _) rfl ?_ | refine JL.store_box 0 ty29 (.tmp rfl) rfl (.tmp rfl) (by first | rfl | assumption) (by first | rfl | exact V.cs_length _ _) rfl rfl rfl ?_
    refine JL.nil ?_
    refine thenQ.n ?_
    refine J.seq ?_
    refine J.region_lit ?_
    refine JL.q rfl rfl rfl (QW.move (.tmp rfl)) ?_
    refine JL.q rfl rfl rfl (by first | exact QW.load_box 0 ty29 (.tmp rfl) rfl rfl rfl | exact QW.load_box 0 ty29 (.tmp rfl) rfl (take_at (V.cs_length _ _) rfl) (V.cs_length _ _)) ?_
    refine JL.q rfl rfl rfl (QW.nil_ptr (.tmp rfl)) ?_
    refine JL.q rfl rfl rfl (QW.field_ptr fo69_0 (.tmp rfl) rfl) ?_
    refine JL.q rfl rfl rfl (QW.field_ptr fo36_2 (.tmp rfl) rfl) ?_
    refine JL.store_box 4 ty29 (.tmp rfl) rfl (.tmp rfl) rfl (V.cs_length _ _) (by rw [mb_len]; rfl) mb_setit rfl ?_
    refine JL.nil ?_
    refine thenQ.n ?_
    refine J.seq ?_
    refine J.region_lit ?_
    refine JL.q rfl rfl rfl (QW.move (.tmp rfl)) ?_
    refine JL.q rfl rfl rfl (by first | exact QW.load_box 0 ty29 (.tmp rfl) rfl rfl rfl | exact QW.load_box 0 ty29 (.tmp rfl) rfl (take_at (V.cs_length _ _) rfl) (V.cs_length _ _)) ?_
    refine JL.callPV [.k, .k, .k, .k, .p, .p] hgo rfl (.tmp rfl) Lent.nil (fun _ => (.cons (.tmp rfl) .nil)) rfl (hg j σ vis[j] f o hj32 hIj hgx hfj) (.inl rfl) (fun k36 x36 o36 h36 => ?_) (fun k36 => ?_)
    rotate_left
    · skip
      refine thenQ.p ?_
      refine blkQ.p ?_
      refine thenQ.p ?_
      refine thenQ.p ?_
      refine blkQ.p ?_
      refine thenQ.p ?_
      exact ⟨_, selP [.k, .k, .k, .k] _, _, rfl, rfl, sel_perm [.k, .k, .k, .k] _, ItR.er ((itemsE_yes hv12 (by show vk = 4; simpa using k16)).trans (hit.trans (itE_bad hlt (er_of k36)))) k36⟩
    obtain ⟨q36, σ36, f36, o1_, hs36, hf36, hI36, rfl, rfl⟩ := h36
    rw [itE_ok hlt hs36] at hit
    refine JL.q rfl rfl rfl (QW.not (.tmp rfl)) ?_
    refine JL.nil ?_
    refine thenQ.n ?_
    refine J.cond (.tmp rfl) (fun c2 => ?_) (fun c2 => ?_)
    · skip
      obtain rfl : q36 = false := by simpa using c2
      rw [if_neg (by decide)] at hit
      refine J.exit ?_
      refine blkQ.miss rfl ?_
      refine thenQ.x ?_
      refine thenQ.x ?_
      refine blkQ.hit ?_
      refine thenQ.n ?_
      refine J.region_lit ?_
      refine JL.q rfl rfl rfl (QW.move (.tmp rfl)) ?_
      refine JL.q rfl rfl rfl (by first | exact QW.load_box 1 ty29 (.tmp rfl) rfl rfl rfl | exact QW.load_box 1 ty29 (.tmp rfl) rfl (take_at (V.cs_length _ _) rfl) (V.cs_length _ _)) ?_
      refine JL.q rfl rfl rfl (QW.nil_ptr (.tmp rfl)) ?_
      refine JL.q rfl rfl rfl (QW.field_ptr fo69_0 (.tmp rfl) rfl) ?_
      refine JL.q rfl rfl rfl (QW.field_ptr fo36_2 (.tmp rfl) rfl) ?_
      refine JL.store_box 4 ty29 (.tmp rfl) rfl (.tmp rfl) rfl (V.cs_length _ _) (by rw [mb_len]; rfl) mb_setit rfl ?_
      refine JL.nil ?_
      exact ⟨_, selP [.k, .k, .k, .k, .p, .p] _, _, RetEv.none rfl , rfl, sel_perm [.k, .k, .k, .k, .p, .p] _, ItR.ok ((itemsE_yes hv12 (by show vk = 4; simpa using k16)).trans hit) (Nat.le_trans hlt hlen) hI36 hf36⟩
    obtain rfl : q36 = true := by simpa using c2
    rw [if_pos rfl] at hit
    refine J.skip ?_
    refine blkQ.n ?_
    refine thenQ.n ?_
    refine J.region_lit ?_
    refine JL.q rfl rfl rfl (QW.add (.tmp rfl) .const (by first | exact w64n (by first | rfl | omega | (simp; done)) (by omega) | exact w64 (by omega) | rfl)) ?_
    refine JL.q rfl rfl rfl (QW.move (.tmp rfl)) ?_
    refine JL.nil ?_
    refine thenQ.n ?_
    exact ⟨⟨j + 1, σ36, f36, vis[j], o1_⟩, ⟨hlt, hit, hI36, hf36⟩, by show vis.length - (j + 1) < vis.length - j; omega, Wk.re (.cons rfl (.refl _) (.cons rfl (.refl _) (.cons rfl (.refl _) (.cons rfl (.refl _) (.cons rfl (.refl _) (.cons rfl (.refl _) .nil)))))) (Reown.dropN 1 _ rfl) (fun _ h => by first | exact h | simp [h])⟩
  have hge : vis.length ≤ j := by simpa [V.css_length] using c1
  rw [List.drop_of_length_le hge, itE] at hit
  refine J.exit ?_
  refine thenQ.x ?_
  refine thenQ.x ?_
  refine blkQ.hit ?_
  refine thenQ.n ?_
  refine J.region_lit ?_
  refine JL.q rfl rfl rfl (QW.move (.tmp rfl)) ?_
  refine JL.q rfl rfl rfl (by first | exact QW.load_box 0 ty29 (.tmp rfl) rfl rfl rfl | exact QW.load_box 0 ty29 (.tmp rfl) rfl (take_at (V.cs_length _ _) rfl) (V.cs_length _ _)) ?_
  refine JL.q rfl rfl rfl (QW.nil_ptr (.tmp rfl)) ?_
  refine JL.q rfl rfl rfl (QW.field_ptr fo69_0 (.tmp rfl) rfl) ?_
  refine JL.q rfl rfl rfl (QW.field_ptr fo36_2 (.tmp rfl) rfl) ?_
  refine JL.store_box 3 ty29 (.tmp rfl) rfl (.tmp rfl) rfl (V.cs_length _ _) (by rw [mb_len]; rfl) mb_setit rfl ?_
  refine JL.nil ?_
  exact ⟨_, selP [.k, .k, .k, .p, .p] _, _, RetEv.none rfl , rfl, sel_perm [.k, .k, .k, .p, .p] _, ItR.ok ((itemsE_yes hv12 (by show vk = 4; simpa using k16)).trans hit) (Nat.le_trans hj hlen) hIj hfj⟩
end Go.Proofs.YtjhonjdhanlbkaaGreat.J

/- Walks: what the machine does with each item. -/
namespace Go.Proofs.YtjhonjdhanlbkaaGreat.J
open Go Go.RowKit
set_option maxRecDepth 10000
set_option maxHeartbeats 4000000
def outC (v : Value) : List AV := [.c (.int .i64 4), .c (.int .u64 0), .c (str []), .c (.slice none 0 0), .c v]
def ptr (b : Nat) : Value := .pointer (some ⟨b, 0, none⟩)
def wLst (b5 b2 b6 b : Nat) (ye : List AV) (j : Nat) (ys : List V) (o : Own) : Prop := ∃ v, o = .grp [.box b5 (outC v), .arr v eV (V.css false ys), .box b2 [pb b], .box b6 ye] ∧ ys.length ≤ j ∧ ∀ x ∈ ys, x.good
def stMap (y : EX) (s : ScT) (ys : List V) (x : V) (f : Int) : Except Int (Bool × List V × Int) := match y.ev { s with it := x } f with
  | .error e => .error e
  | .ok (v, f') => .ok (true, ys ++ [v], f')
def stFil (y : EX) (s : ScT) (ys : List V) (x : V) (f : Int) : Except Int (Bool × List V × Int) := match truE (y.ev { s with it := x } f) with
  | .error e => .error e
  | .ok (t, f') => .ok (true, if t then ys ++ [x] else ys, f')
theorem stMap_er {y : EX} {s : ScT} {ys : List V} {x : V} {f c : Int} (h : y.ev { s with it := x } f = .error c) : stMap y s ys x f = .error c := by unfold stMap; rw [h]
theorem stMap_ok {y : EX} {s : ScT} {ys : List V} {x v : V} {f f' : Int} (h : y.ev { s with it := x } f = .ok (v, f')) : stMap y s ys x f = .ok (true, ys ++ [v], f') := by unfold stMap; rw [h]
theorem stFil_er {y : EX} {s : ScT} {ys : List V} {x : V} {f c : Int} (h : truE (y.ev { s with it := x } f) = .error c) : stFil y s ys x f = .error c := by unfold stFil; rw [h]
theorem stFil_ok {y : EX} {s : ScT} {ys : List V} {x : V} {f f' : Int} {t : Bool} (h : truE (y.ev { s with it := x } f) = .ok (t, f')) : stFil y s ys x f = .ok (true, if t then ys ++ [x] else ys, f') := by unfold stFil; rw [h]
theorem css_set (ys : List V) (v : V) (z : List AV) : (V.css false ys ++ [z]).set ys.length (v.cs false) = V.css false (ys ++ [v]) := by
  have h : ∀ (l : List V), V.css false (l ++ [v]) = V.css false l ++ [v.cs false] := fun l => by
    induction l with
    | nil => rfl
    | cons x r ih => rw [List.cons_append, V.css, V.css, ih]; rfl
  rw [h, ← V.css_length false ys, List.set_append_right _ _ (Nat.le_refl _), Nat.sub_self]; rfl
theorem css_zero (ys : List V) (z : List AV) : (V.css false ys ++ [z])[ys.length]? = some z := by
  rw [← V.css_length false ys, List.getElem?_append_right (Nat.le_refl _), Nat.sub_self]; rfl
def BodR {β : Type} (W : Nat → β → Own → Prop) (r : Except Int (Bool × β × Int)) (j b : Nat) (s : ScT) : Res → List Own → Prop := PanR (errE r = 0) (errV (errE r)) fun y o => ∃ k σ' f' o1, r = .ok (k, σ', f') ∧ okF f' ∧ W (j + 1) σ' o1 ∧ y = .c (.bool k) ∧ o = [mb b s f', o1]
theorem BodR.er {β : Type} {W : Nat → β → Own → Prop} {r : Except Int (Bool × β × Int)} {j b : Nat} {s : ScT} {c : Int} (h : r = .error c) (hc : ¬ c = 0) : BodR W r j b s (.pan (.iface 38 (.int .i64 c))) [] := .inr ⟨by rw [h]; exact hc, by rw [h]; rfl, rfl⟩
theorem BodR.ok {β : Type} {W : Nat → β → Own → Prop} {r : Except Int (Bool × β × Int)} {j b : Nat} {s : ScT} {k : Bool} {σ : β} {f' : Int} {o1 : Own} (h : r = .ok (k, σ, f')) (hf : okF f') (hW : W (j + 1) σ o1) : BodR W r j b s (.ret (.c (.bool k))) [mb b s f', o1] := .inl ⟨by rw [h]; rfl, _, rfl, k, σ, f', o1, h, hf, hW, rfl, rfl⟩
theorem over1_ok {n : Nat} (ih : EvIH n) {y : EX} {s : ScT} {fr : Bool} (hw : y.wf) (hf : y.Fine) (hs : s.good) (hn : y.sz ≤ n) (b b5 b2 b6 : Nat) {j : Nat} {ys : List V} {x : V} {f : Int} {o0 : Own} (hj : j < 32) (hW : wLst b5 b2 b6 b (y.cs fr) j ys o0) (hx : x.good) (h0 : okF f) :
    AC Tryz.prog 67 [mb b { s with it := x } f, o0] [.agg (x.cs false), .c (ptr b5), .c (ptr b2), .c (ptr b6)] (BodR (wLst b5 b2 b6 b (y.cs fr)) (stMap y s ys x f) j b { s with it := x }) := by
  obtain ⟨v, rfl, hl, hgd⟩ := hW
  refine AC.of_J Tryz.func67 rfl Tryz.ntmps67 rfl fun w0 A0 => ?_
  refine J.seq ?_
  refine J.reown (Reown.cons (Reown.open _ _)) ?_
  refine J.region_lit ?_
  refine JL.box_agg (.tmp rfl) rfl fun b4 => ?_
  refine JL.q rfl rfl rfl (QW.assign .const) ?_
  refine JL.nil ?_
  refine thenQ.n ?_
  refine J.seq ?_
  refine J.regionX mixed ?_
  refine JX.f 0 [] rfl rfl rfl rfl rfl rfl rfl rfl (fun ow_ => (.q rfl (QW.field_ptr fo29_4 (.tmp rfl) rfl))) ?_
  refine JX.o 1 2 [6] rfl rfl rfl rfl rfl rfl rfl rfl rfl (fun ow_ ho_ => (.q rfl (QW.load_box1 2 ty27 (.tmp rfl) ho_ rfl))) ?_
  refine JX.o 2 4 [] rfl rfl rfl rfl rfl rfl rfl rfl rfl (fun ow_ ho_ => (.q rfl (QW.load_box1 4 ty67 (.tmp rfl) ho_ rfl))) ?_
  refine JX.o 3 5 [] rfl rfl rfl rfl rfl rfl rfl rfl rfl (fun ow_ ho_ => (.q rfl (by first | exact QW.load_box 5 ty34 (.tmp rfl) ho_ rfl rfl | exact QW.load_box 5 ty34 (.tmp rfl) ho_ (take_at (EX.cs_length _ _) rfl) (EX.cs_length _ _)))) ?_
  refine JX.o 5 3 [7] rfl rfl rfl rfl rfl rfl rfl rfl rfl (fun ow_ ho_ => (.q rfl (QW.len_arr 3 sl27 (.tmp rfl) ho_))) ?_
  refine JX.f 6 [] rfl rfl rfl rfl rfl rfl rfl rfl (fun ow_ => (.q rfl (QW.buildSlice (idx := [0]) (xs := [[.c (.int .i64 0), .c (.int .u64 0), .c (str []), .c (.slice none 0 0), .c (.slice none 0 0)]]) sl27 el29 z29 rfl (.cons (.constA rfl) .nil) rfl rfl rfl rfl rfl rfl rfl rfl rfl))) ?_
  refine JX.one 4 [false, false, true, true, false, false] rfl (by kernel_rfl) (by kernel_rfl) rfl rfl (by kernel_rfl) rfl fun bs4_ pe_ ex_ => ?_
  refine JL.conv (by (try simp only [vlF, bxF, tkM, lvM, Flt.val, Flt.bx, List.append_assoc, List.take_succ_cons, List.take_zero, List.append_eq, id_eq, stepsO, List.map_cons, List.map_nil, valO, nthO, curO, mrg, List.reverse_cons, List.reverse_nil, List.nil_append, List.cons_append, List.append_nil, List.getElem?_cons_zero, List.getElem?_cons_succ, Option.map_some, Option.getD_some, List.set_cons_zero, List.set_cons_succ, AV.cellsOf, splice_zero, splice_succ, Nat.zero_add, Nat.reduceAdd]); rfl) ?_
  refine JL.callPF [.k, .p] gofn33 rfl Lent.nil (fun _ => (.cons (.tmp rfl) (.cons (.tmp rfl) .nil))) (ih y { s with it := x } f b fr hw hf ⟨hs.st, hs.ev, hx⟩ h0 hn) (.inl rfl) (fun k10 x10 o10 h10 => ?_) (fun k10 => ?_)
  rotate_left
  · skip
    refine thenQ.p ?_
    refine thenQ.p ?_
    exact ⟨_, selP [.k, .k, .k, .k, .k] _, _, rfl, rfl, sel_perm [.k, .k, .k, .k, .k] _, BodR.er (stMap_er (er_of k10)) k10⟩
  obtain ⟨v10, f10, hv10, rfl, rfl⟩ := h10
  refine JL.nil ?_
  refine thenQ.n ⟨[_], _, rfl, rfl, rfl, rfl, rfl, Reown.mrgN 6 rfl rfl, ⟨rfl, rfl⟩, ⟨trivial, ⟨rfl, ⟨rfl, ⟨trivial, trivial⟩⟩⟩⟩, ?_⟩
  refine JX.conv (S' := [4, 3, 2]) rfl (by (try simp only [lvM]); rfl) (by (try simp only [vlF, bxF, tkM, lvM, Flt.val, Flt.bx, List.append_assoc, List.take_succ_cons, List.take_zero, List.append_eq, id_eq, stepsO, List.map_cons, List.map_nil, valO, nthO, curO, mrg, List.reverse_cons, List.reverse_nil, List.nil_append, List.cons_append, List.append_nil, List.getElem?_cons_zero, List.getElem?_cons_succ, Option.map_some, Option.getD_some, List.set_cons_zero, List.set_cons_succ, AV.cellsOf, splice_zero, splice_succ, Nat.zero_add, Nat.reduceAdd]); rfl) ?_
  refine JX.one 7 [true, true, true, true] rfl (by kernel_rfl) (by kernel_rfl) rfl rfl (by kernel_rfl) rfl fun bs7_ pe_ ex_ => ?_
  refine JL.conv (by (try simp only [vlF, bxF, tkM, lvM, Flt.val, Flt.bx, List.append_assoc, List.take_succ_cons, List.take_zero, List.append_eq, id_eq, stepsO, List.map_cons, List.map_nil, valO, nthO, curO, mrg, List.reverse_cons, List.reverse_nil, List.nil_append, List.cons_append, List.append_nil, List.getElem?_cons_zero, List.getElem?_cons_succ, Option.map_some, Option.getD_some, List.set_cons_zero, List.set_cons_succ, AV.cellsOf, splice_zero, splice_succ, Nat.zero_add, Nat.reduceAdd]); rfl) ?_
  obtain ⟨hgv, hfv⟩ := ev_okF (s := { s with it := x }) hw hf ⟨hs.st, hs.ev, hx⟩ h0 hv10
  refine JL.append 3 sl27 el29 rfl (.tmp rfl) rfl (srcA_sl sl27 (.tmp rfl)) (by rw [V.css_length]; show (_ + 1) * 80 ≤ _; unfold reach; omega) rfl fun v13 => ?_
  refine JL.nil ?_
  refine thenQ.n ⟨[_], _, rfl, rfl, rfl, rfl, rfl, Reown.tkN 6 rfl, ⟨rfl, rfl⟩, trivial, ?_⟩
  refine JX.conv (S' := [7, 6, 5, 1, 0, 4, 3, 2]) rfl (by (try simp only [lvM]); rfl) (by (try simp only [vlF, bxF, tkM, lvM, Flt.val, Flt.bx, List.append_assoc, List.take_succ_cons, List.take_zero, List.append_eq, id_eq, stepsO, List.map_cons, List.map_nil, valO, nthO, curO, mrg, List.reverse_cons, List.reverse_nil, List.nil_append, List.cons_append, List.append_nil, List.getElem?_cons_zero, List.getElem?_cons_succ, Option.map_some, Option.getD_some, List.set_cons_zero, List.set_cons_succ, AV.cellsOf, splice_zero, splice_succ, Nat.zero_add, Nat.reduceAdd]); rfl) ?_
  refine JX.o 8 3 [13, 11] rfl rfl rfl rfl rfl rfl rfl rfl rfl (fun ow_ ho_ => (.q rfl (QW.index_arr 3 sl27 ty29 rfl (.tmp rfl) ho_ (.tmp rfl) (by first | rfl | omega | (simp; done)) (by rw [List.length_append, V.css_length]; simp) rfl))) ?_
  refine JX.f 10 [] rfl rfl rfl rfl rfl rfl rfl rfl (fun ow_ => (.q rfl (QW.field_ptr fo29_4 (.tmp rfl) rfl))) ?_
  refine jxPair 9 11 (by kernel_rfl) (by kernel_rfl) ?_ ?_
  · skip
    refine CandX.mk 9 [false, true] rfl rfl rfl (by kernel_rfl) rfl fun bs9_ pe_ ex_ => ?_
    refine JL.conv (by (try simp only [vlF, bxF, tkM, lvM, Flt.val, Flt.bx, List.append_assoc, List.take_succ_cons, List.take_zero, List.append_eq, id_eq, stepsO, List.map_cons, List.map_nil, valO, nthO, curO, mrg, List.reverse_cons, List.reverse_nil, List.nil_append, List.cons_append, List.append_nil, List.getElem?_cons_zero, List.getElem?_cons_succ, Option.map_some, Option.getD_some, List.set_cons_zero, List.set_cons_succ, AV.cellsOf, splice_zero, splice_succ, Nat.zero_add, Nat.reduceAdd]); rfl) ?_
    refine JL.store_gp (o := 0) 3 ty29 (.tmp rfl) rfl (css_zero _ _) (by rw [V.css_length]; rfl) (.tmp rfl) rfl (V.cs_length _ _) rfl ((congrArg (List.set _ _) (splice_all (by exact V.cs_length _ _))).trans (css_set _ _ _)) rfl ?_
    refine JL.nil ?_
    refine thenQ.n ⟨[], _, rfl, rfl, rfl, rfl, rfl, Reown.tkN 6 rfl, trivial, ⟨trivial, trivial⟩, ?_⟩
    refine JX.conv (S' := [9, 8, 7, 6, 5, 1, 0, 4, 3, 2]) rfl (by (try simp only [lvM]); rfl) (by (try simp only [vlF, bxF, tkM, lvM, Flt.val, Flt.bx, List.append_assoc, List.take_succ_cons, List.take_zero, List.append_eq, id_eq, stepsO, List.map_cons, List.map_nil, valO, nthO, curO, mrg, List.reverse_cons, List.reverse_nil, List.nil_append, List.cons_append, List.append_nil, List.getElem?_cons_zero, List.getElem?_cons_succ, Option.map_some, Option.getD_some, List.set_cons_zero, List.set_cons_succ, AV.cellsOf, splice_zero, splice_succ, Nat.zero_add, Nat.reduceAdd]); rfl) ?_
    refine JX.one 11 [true] rfl (by kernel_rfl) (by kernel_rfl) rfl rfl (by kernel_rfl) rfl fun bs11_ pe_ ex_ => ?_
    refine JL.conv (by (try simp only [vlF, bxF, tkM, lvM, Flt.val, Flt.bx, List.append_assoc, List.take_succ_cons, List.take_zero, List.append_eq, id_eq, stepsO, List.map_cons, List.map_nil, valO, nthO, curO, mrg, List.reverse_cons, List.reverse_nil, List.nil_append, List.cons_append, List.append_nil, List.getElem?_cons_zero, List.getElem?_cons_succ, Option.map_some, Option.getD_some, List.set_cons_zero, List.set_cons_succ, AV.cellsOf, splice_zero, splice_succ, Nat.zero_add, Nat.reduceAdd]); rfl) ?_
    refine JL.isSlice 3 rfl fun hs1 => ?_
    refine JL.store_box 2 ty27 (.tmp rfl) rfl (.tmp rfl) (by first | rfl | assumption) rfl rfl rfl rfl ?_
    refine JL.nil ?_
    refine thenQ.n ⟨[], _, rfl, rfl, rfl, rfl, rfl, Reown.tkN 6 rfl, trivial, trivial, ?_⟩
    refine JX.conv (S' := [11, 10, 9, 8, 7, 6, 5, 1, 0, 4, 3, 2]) rfl (by (try simp only [lvM]); rfl) (by (try simp only [vlF, bxF, tkM, lvM, Flt.val, Flt.bx, List.append_assoc, List.take_succ_cons, List.take_zero, List.append_eq, id_eq, stepsO, List.map_cons, List.map_nil, valO, nthO, curO, mrg, List.reverse_cons, List.reverse_nil, List.nil_append, List.cons_append, List.append_nil, List.getElem?_cons_zero, List.getElem?_cons_succ, Option.map_some, Option.getD_some, List.set_cons_zero, List.set_cons_succ, AV.cellsOf, splice_zero, splice_succ, Nat.zero_add, Nat.reduceAdd]); rfl) ?_
    refine JX.fin (by kernel_rfl) (by kernel_rfl) fun bs_ => ?_
    refine QX.conv (by (try simp only [vlF, bxF, tkM, lvM, Flt.val, Flt.bx, List.append_assoc, List.take_succ_cons, List.take_zero, List.append_eq, id_eq, stepsO, List.map_cons, List.map_nil, valO, nthO, curO, mrg, List.reverse_cons, List.reverse_nil, List.nil_append, List.cons_append, List.append_nil, List.getElem?_cons_zero, List.getElem?_cons_succ, Option.map_some, Option.getD_some, List.set_cons_zero, List.set_cons_succ, AV.cellsOf, splice_zero, splice_succ, Nat.zero_add, Nat.reduceAdd]); rfl) ?_
    refine thenQ.n ?_
    refine J.seq ?_
    refine J.reown (Reown.cons (Reown.cons (Reown.shut [_, _, _, _] []))) ?_
    refine J.region_lit ?_
    refine JL.q rfl rfl rfl (QW.assign .const) ?_
    refine JL.nil ?_
    refine thenQ.n ?_
    refine J.ret ?_
    exact ⟨_, selP [.k, .p, .p] _, _, RetEv.one rfl (REv.tmp rfl (.refl _)), rfl, sel_perm [.k, .p, .p] _, BodR.ok (stMap_ok hv10) hfv ⟨_, rfl, by simp; omega, fun z hz => (List.mem_append.1 hz).elim (hgd z) (fun h => by rw [List.mem_singleton.1 h]; exact hgv)⟩⟩
  · skip
    refine CandX.mk 11 [true, false] rfl rfl rfl (by kernel_rfl) rfl fun bs11_ pe_ ex_ => ?_
    refine JL.conv (by (try simp only [vlF, bxF, tkM, lvM, Flt.val, Flt.bx, List.append_assoc, List.take_succ_cons, List.take_zero, List.append_eq, id_eq, stepsO, List.map_cons, List.map_nil, valO, nthO, curO, mrg, List.reverse_cons, List.reverse_nil, List.nil_append, List.cons_append, List.append_nil, List.getElem?_cons_zero, List.getElem?_cons_succ, Option.map_some, Option.getD_some, List.set_cons_zero, List.set_cons_succ, AV.cellsOf, splice_zero, splice_succ, Nat.zero_add, Nat.reduceAdd]); rfl) ?_
    refine JL.isSlice 3 rfl fun hs1 => ?_
    refine JL.store_box 2 ty27 (.tmp rfl) rfl (.tmp rfl) (by first | rfl | assumption) rfl rfl rfl rfl ?_
    refine JL.nil ?_
    refine thenQ.n ⟨[], _, rfl, rfl, rfl, rfl, rfl, Reown.tkN 6 rfl, trivial, ⟨rfl, trivial⟩, ?_⟩
    refine JX.conv (S' := [11, 10, 7, 6, 5, 1, 0, 4, 3, 2]) rfl (by (try simp only [lvM]); rfl) (by (try simp only [vlF, bxF, tkM, lvM, Flt.val, Flt.bx, List.append_assoc, List.take_succ_cons, List.take_zero, List.append_eq, id_eq, stepsO, List.map_cons, List.map_nil, valO, nthO, curO, mrg, List.reverse_cons, List.reverse_nil, List.nil_append, List.cons_append, List.append_nil, List.getElem?_cons_zero, List.getElem?_cons_succ, Option.map_some, Option.getD_some, List.set_cons_zero, List.set_cons_succ, AV.cellsOf, splice_zero, splice_succ, Nat.zero_add, Nat.reduceAdd]); rfl) ?_
    refine JX.one 9 [true] rfl (by kernel_rfl) (by kernel_rfl) rfl rfl (by kernel_rfl) rfl fun bs9_ pe_ ex_ => ?_
    refine JL.conv (by (try simp only [vlF, bxF, tkM, lvM, Flt.val, Flt.bx, List.append_assoc, List.take_succ_cons, List.take_zero, List.append_eq, id_eq, stepsO, List.map_cons, List.map_nil, valO, nthO, curO, mrg, List.reverse_cons, List.reverse_nil, List.nil_append, List.cons_append, List.append_nil, List.getElem?_cons_zero, List.getElem?_cons_succ, Option.map_some, Option.getD_some, List.set_cons_zero, List.set_cons_succ, AV.cellsOf, splice_zero, splice_succ, Nat.zero_add, Nat.reduceAdd]); rfl) ?_
    refine JL.store_gp (o := 0) 3 ty29 (.tmp rfl) rfl (css_zero _ _) (by rw [V.css_length]; rfl) (.tmp rfl) rfl (V.cs_length _ _) rfl ((congrArg (List.set _ _) (splice_all (by exact V.cs_length _ _))).trans (css_set _ _ _)) rfl ?_
    refine JL.nil ?_
    refine thenQ.n ⟨[], _, rfl, rfl, rfl, rfl, rfl, Reown.tkN 6 rfl, trivial, trivial, ?_⟩
    refine JX.conv (S' := [9, 8, 11, 10, 7, 6, 5, 1, 0, 4, 3, 2]) rfl (by (try simp only [lvM]); rfl) (by (try simp only [vlF, bxF, tkM, lvM, Flt.val, Flt.bx, List.append_assoc, List.take_succ_cons, List.take_zero, List.append_eq, id_eq, stepsO, List.map_cons, List.map_nil, valO, nthO, curO, mrg, List.reverse_cons, List.reverse_nil, List.nil_append, List.cons_append, List.append_nil, List.getElem?_cons_zero, List.getElem?_cons_succ, Option.map_some, Option.getD_some, List.set_cons_zero, List.set_cons_succ, AV.cellsOf, splice_zero, splice_succ, Nat.zero_add, Nat.reduceAdd]); rfl) ?_
    refine JX.fin (by kernel_rfl) (by kernel_rfl) fun bs_ => ?_
    refine QX.conv (by (try simp only [vlF, bxF, tkM, lvM, Flt.val, Flt.bx, List.append_assoc, List.take_succ_cons, List.take_zero, List.append_eq, id_eq, stepsO, List.map_cons, List.map_nil, valO, nthO, curO, mrg, List.reverse_cons, List.reverse_nil, List.nil_append, List.cons_append, List.append_nil, List.getElem?_cons_zero, List.getElem?_cons_succ, Option.map_some, Option.getD_some, List.set_cons_zero, List.set_cons_succ, AV.cellsOf, splice_zero, splice_succ, Nat.zero_add, Nat.reduceAdd]); rfl) ?_
    refine thenQ.n ?_
    refine J.seq ?_
    refine J.reown (Reown.cons (Reown.cons (Reown.shut [_, _, _, _] []))) ?_
    refine J.region_lit ?_
    refine JL.q rfl rfl rfl (QW.assign .const) ?_
    refine JL.nil ?_
    refine thenQ.n ?_
    refine J.ret ?_
    exact ⟨_, selP [.k, .p, .p] _, _, RetEv.one rfl (REv.tmp rfl (.refl _)), rfl, sel_perm [.k, .p, .p] _, BodR.ok (stMap_ok hv10) hfv ⟨_, rfl, by simp; omega, fun z hz => (List.mem_append.1 hz).elim (hgd z) (fun h => by rw [List.mem_singleton.1 h]; exact hgv)⟩⟩
theorem tr_okF {e : EX} {s : ScT} {f f' : Int} {t : Bool} (hw : e.wf) (hf : e.Fine) (hs : s.good) (h0 : okF f) (h : truE (e.ev s f) = .ok (t, f')) : okF f' := by
  obtain ⟨v, h1, _, _⟩ := truE_ok h
  exact (ev_okF hw hf hs h0 h1).2
def wFnd (b7 b5 b2 b6 b : Nat) (ye : List AV) (j : Nat) (p : Bool × V) (o : Own) : Prop := ∃ zs, o = .grp [.box b7 [.c (.bool p.1)], .box b5 zs, .box b2 [pb b], .box b6 ye] ∧ zs.length = 5 ∧ (p.1 = true → zs = p.2.cs false ∧ p.2.good)
def stFnd (y : EX) (s : ScT) (p : Bool × V) (x : V) (f : Int) : Except Int (Bool × (Bool × V) × Int) := match truE (y.ev { s with it := x } f) with
  | .error e => .error e
  | .ok (t, f') => .ok (!t, (t, if t then x else p.2), f')
theorem stFnd_er {y : EX} {s : ScT} {p : Bool × V} {x : V} {f c : Int} (h : truE (y.ev { s with it := x } f) = .error c) : stFnd y s p x f = .error c := by unfold stFnd; rw [h]
theorem stFnd_ok {y : EX} {s : ScT} {p : Bool × V} {x : V} {f f' : Int} {t : Bool} (h : truE (y.ev { s with it := x } f) = .ok (t, f')) : stFnd y s p x f = .ok (!t, (t, if t then x else p.2), f') := by unfold stFnd; rw [h]
theorem over2_ok {n : Nat} (ih : EvIH n) {y : EX} {s : ScT} {fr : Bool} (hw : y.wf) (hf : y.Fine) (hs : s.good) (hn : y.sz ≤ n) (b b5 b2 b6 : Nat) {j : Nat} {ys : List V} {x : V} {f : Int} {o0 : Own} (hj : j < 32) (hW : wLst b5 b2 b6 b (y.cs fr) j ys o0) (hx : x.good) (h0 : okF f) :
    AC Tryz.prog 68 [mb b { s with it := x } f, o0] [.agg (x.cs false), .c (ptr b2), .c (ptr b6), .c (ptr b5)] (BodR (wLst b5 b2 b6 b (y.cs fr)) (stFil y s ys x f) j b { s with it := x }) := by
  obtain ⟨v, rfl, hl, hgd⟩ := hW
  refine AC.of_J Tryz.func68 rfl Tryz.ntmps68 rfl fun w0 A0 => ?_
  refine J.seq ?_
  refine J.reown (Reown.cons (Reown.open _ _)) ?_
  refine J.region_lit ?_
  refine JL.box_agg (.tmp rfl) rfl fun b4 => ?_
  refine JL.q rfl rfl rfl (QW.assign .const) ?_
  refine JL.nil ?_
  refine thenQ.n ?_
  refine J.seq ?_
  refine J.seq ?_
  refine J.region_lit ?_
  refine JL.q rfl rfl rfl (QW.load_box1 4 ty67 (.tmp rfl) rfl rfl) ?_
  refine JL.q rfl rfl rfl (by first | exact QW.load_box 5 ty34 (.tmp rfl) rfl rfl rfl | exact QW.load_box 5 ty34 (.tmp rfl) rfl (take_at (EX.cs_length _ _) rfl) (EX.cs_length _ _)) ?_
  refine JL.callPF [.k, .p] gofn48 rfl Lent.nil (fun _ => (.cons (.tmp rfl) (.cons (.tmp rfl) .nil))) (mtruth_ok (s := { s with it := x }) ih Xc.self hw hf ⟨hs.st, hs.ev, hx⟩ h0 hn) (.inl rfl) (fun k8 x8 o8 h8 => ?_) (fun k8 => ?_)
  rotate_left
  · skip
    refine thenQ.p ?_
    refine thenQ.p ?_
    exact ⟨_, selP [.k, .k, .k, .k, .k] _, _, rfl, rfl, sel_perm [.k, .k, .k, .k, .k] _, BodR.er (stFil_er (er_of k8)) k8⟩
  obtain ⟨q8, f8, hq8, rfl, rfl⟩ := h8
  refine JL.nil ?_
  refine thenQ.n ?_
  refine J.cond (.tmp rfl) (fun c1 => ?_) (fun c1 => ?_)
  · skip
    obtain rfl : q8 = true := c1
    have hfv := tr_okF (s := { s with it := x }) hw hf ⟨hs.st, hs.ev, hx⟩ h0 hq8
    refine J.regionX mixed ?_
    refine JX.f 0 [] rfl rfl rfl rfl rfl rfl rfl rfl (fun ow_ => (.q rfl (QW.field_ptr fo29_4 (.tmp rfl) rfl))) ?_
    refine JX.o 1 2 [9] rfl rfl rfl rfl rfl rfl rfl rfl rfl (fun ow_ ho_ => (.q rfl (QW.load_box1 2 ty27 (.tmp rfl) ho_ rfl))) ?_
    refine JX.o 2 0 [] rfl rfl rfl rfl rfl rfl rfl rfl rfl (fun ow_ ho_ => (.q rfl (by first | exact QW.load_box 0 ty29 (.tmp rfl) ho_ rfl rfl | exact QW.load_box 0 ty29 (.tmp rfl) ho_ (take_at (V.cs_length _ _) rfl) (V.cs_length _ _)))) ?_
    refine JX.o 3 3 [10] rfl rfl rfl rfl rfl rfl rfl rfl rfl (fun ow_ ho_ => (.q rfl (QW.len_arr 3 sl27 (.tmp rfl) ho_))) ?_
    refine JX.f 4 [] rfl rfl rfl rfl rfl rfl rfl rfl (fun ow_ => (.q rfl (QW.buildSlice (idx := [0]) (xs := [[.c (.int .i64 0), .c (.int .u64 0), .c (str []), .c (.slice none 0 0), .c (.slice none 0 0)]]) sl27 el29 z29 rfl (.cons (.constA rfl) .nil) rfl rfl rfl rfl rfl rfl rfl rfl rfl))) ?_
    refine JX.one 5 [true, true, true, true, true] rfl (by kernel_rfl) (by kernel_rfl) rfl rfl (by kernel_rfl) rfl fun bs5_ pe_ ex_ => ?_
    refine JL.conv (by (try simp only [vlF, bxF, tkM, lvM, Flt.val, Flt.bx, List.append_assoc, List.take_succ_cons, List.take_zero, List.append_eq, id_eq, stepsO, List.map_cons, List.map_nil, valO, nthO, curO, mrg, List.reverse_cons, List.reverse_nil, List.nil_append, List.cons_append, List.append_nil, List.getElem?_cons_zero, List.getElem?_cons_succ, Option.map_some, Option.getD_some, List.set_cons_zero, List.set_cons_succ, AV.cellsOf, splice_zero, splice_succ, Nat.zero_add, Nat.reduceAdd]); rfl) ?_
    refine JL.append 3 sl27 el29 rfl (.tmp rfl) rfl (srcA_sl sl27 (.tmp rfl)) (by rw [V.css_length]; show (_ + 1) * 80 ≤ _; unfold reach; omega) rfl fun v14 => ?_
    refine JL.nil ?_
    refine thenQ.n ⟨[_], _, rfl, rfl, rfl, rfl, rfl, Reown.tkN 6 rfl, ⟨rfl, rfl⟩, trivial, ?_⟩
    refine JX.conv (S' := [5, 4, 3, 2, 1, 0]) rfl (by (try simp only [lvM]); rfl) (by (try simp only [vlF, bxF, tkM, lvM, Flt.val, Flt.bx, List.append_assoc, List.take_succ_cons, List.take_zero, List.append_eq, id_eq, stepsO, List.map_cons, List.map_nil, valO, nthO, curO, mrg, List.reverse_cons, List.reverse_nil, List.nil_append, List.cons_append, List.append_nil, List.getElem?_cons_zero, List.getElem?_cons_succ, Option.map_some, Option.getD_some, List.set_cons_zero, List.set_cons_succ, AV.cellsOf, splice_zero, splice_succ, Nat.zero_add, Nat.reduceAdd]); rfl) ?_
    refine JX.o 6 3 [14, 12] rfl rfl rfl rfl rfl rfl rfl rfl rfl (fun ow_ ho_ => (.q rfl (QW.index_arr 3 sl27 ty29 rfl (.tmp rfl) ho_ (.tmp rfl) (by first | rfl | omega | (simp; done)) (by rw [List.length_append, V.css_length]; simp) rfl))) ?_
    refine JX.f 8 [] rfl rfl rfl rfl rfl rfl rfl rfl (fun ow_ => (.q rfl (QW.field_ptr fo29_4 (.tmp rfl) rfl))) ?_
    refine jxPair 7 9 (by kernel_rfl) (by kernel_rfl) ?_ ?_
    · skip
      refine CandX.mk 7 [false, true] rfl rfl rfl (by kernel_rfl) rfl fun bs7_ pe_ ex_ => ?_
      refine JL.conv (by (try simp only [vlF, bxF, tkM, lvM, Flt.val, Flt.bx, List.append_assoc, List.take_succ_cons, List.take_zero, List.append_eq, id_eq, stepsO, List.map_cons, List.map_nil, valO, nthO, curO, mrg, List.reverse_cons, List.reverse_nil, List.nil_append, List.cons_append, List.append_nil, List.getElem?_cons_zero, List.getElem?_cons_succ, Option.map_some, Option.getD_some, List.set_cons_zero, List.set_cons_succ, AV.cellsOf, splice_zero, splice_succ, Nat.zero_add, Nat.reduceAdd]); rfl) ?_
      refine JL.store_gp (o := 0) 3 ty29 (.tmp rfl) rfl (css_zero _ _) (by rw [V.css_length]; rfl) (.tmp rfl) rfl (V.cs_length _ _) rfl ((congrArg (List.set _ _) (splice_all (by exact V.cs_length _ _))).trans (css_set _ _ _)) rfl ?_
      refine JL.nil ?_
      refine thenQ.n ⟨[], _, rfl, rfl, rfl, rfl, rfl, Reown.tkN 6 rfl, trivial, ⟨trivial, trivial⟩, ?_⟩
      refine JX.conv (S' := [7, 6, 5, 4, 3, 2, 1, 0]) rfl (by (try simp only [lvM]); rfl) (by (try simp only [vlF, bxF, tkM, lvM, Flt.val, Flt.bx, List.append_assoc, List.take_succ_cons, List.take_zero, List.append_eq, id_eq, stepsO, List.map_cons, List.map_nil, valO, nthO, curO, mrg, List.reverse_cons, List.reverse_nil, List.nil_append, List.cons_append, List.append_nil, List.getElem?_cons_zero, List.getElem?_cons_succ, Option.map_some, Option.getD_some, List.set_cons_zero, List.set_cons_succ, AV.cellsOf, splice_zero, splice_succ, Nat.zero_add, Nat.reduceAdd]); rfl) ?_
      refine JX.one 9 [true] rfl (by kernel_rfl) (by kernel_rfl) rfl rfl (by kernel_rfl) rfl fun bs9_ pe_ ex_ => ?_
      refine JL.conv (by (try simp only [vlF, bxF, tkM, lvM, Flt.val, Flt.bx, List.append_assoc, List.take_succ_cons, List.take_zero, List.append_eq, id_eq, stepsO, List.map_cons, List.map_nil, valO, nthO, curO, mrg, List.reverse_cons, List.reverse_nil, List.nil_append, List.cons_append, List.append_nil, List.getElem?_cons_zero, List.getElem?_cons_succ, Option.map_some, Option.getD_some, List.set_cons_zero, List.set_cons_succ, AV.cellsOf, splice_zero, splice_succ, Nat.zero_add, Nat.reduceAdd]); rfl) ?_
      refine JL.isSlice 3 rfl fun hs1 => ?_
      refine JL.store_box 2 ty27 (.tmp rfl) rfl (.tmp rfl) (by first | rfl | assumption) rfl rfl rfl rfl ?_
      refine JL.nil ?_
      refine thenQ.n ⟨[], _, rfl, rfl, rfl, rfl, rfl, Reown.tkN 6 rfl, trivial, trivial, ?_⟩
      refine JX.conv (S' := [9, 8, 7, 6, 5, 4, 3, 2, 1, 0]) rfl (by (try simp only [lvM]); rfl) (by (try simp only [vlF, bxF, tkM, lvM, Flt.val, Flt.bx, List.append_assoc, List.take_succ_cons, List.take_zero, List.append_eq, id_eq, stepsO, List.map_cons, List.map_nil, valO, nthO, curO, mrg, List.reverse_cons, List.reverse_nil, List.nil_append, List.cons_append, List.append_nil, List.getElem?_cons_zero, List.getElem?_cons_succ, Option.map_some, Option.getD_some, List.set_cons_zero, List.set_cons_succ, AV.cellsOf, splice_zero, splice_succ, Nat.zero_add, Nat.reduceAdd]); rfl) ?_
      refine JX.fin (by kernel_rfl) (by kernel_rfl) fun bs_ => ?_
      refine QX.conv (by (try simp only [vlF, bxF, tkM, lvM, Flt.val, Flt.bx, List.append_assoc, List.take_succ_cons, List.take_zero, List.append_eq, id_eq, stepsO, List.map_cons, List.map_nil, valO, nthO, curO, mrg, List.reverse_cons, List.reverse_nil, List.nil_append, List.cons_append, List.append_nil, List.getElem?_cons_zero, List.getElem?_cons_succ, Option.map_some, Option.getD_some, List.set_cons_zero, List.set_cons_succ, AV.cellsOf, splice_zero, splice_succ, Nat.zero_add, Nat.reduceAdd]); rfl) ?_
      refine thenQ.n ?_
      refine J.seq ?_
      refine J.reown (Reown.cons (Reown.cons (Reown.shut [_, _, _, _] []))) ?_
      refine J.region_lit ?_
      refine JL.q rfl rfl rfl (QW.assign .const) ?_
      refine JL.nil ?_
      refine thenQ.n ?_
      refine J.ret ?_
      exact ⟨_, selP [.k, .p, .p] _, _, RetEv.one rfl (REv.tmp rfl (.refl _)), rfl, sel_perm [.k, .p, .p] _, BodR.ok (σ := ys ++ [x]) (stFil_ok hq8) hfv ⟨_, rfl, by simp; omega, fun z hz => (List.mem_append.1 hz).elim (hgd z) (fun h => by rw [List.mem_singleton.1 h]; exact hx)⟩⟩
    · skip
      refine CandX.mk 9 [true, false] rfl rfl rfl (by kernel_rfl) rfl fun bs9_ pe_ ex_ => ?_
      refine JL.conv (by (try simp only [vlF, bxF, tkM, lvM, Flt.val, Flt.bx, List.append_assoc, List.take_succ_cons, List.take_zero, List.append_eq, id_eq, stepsO, List.map_cons, List.map_nil, valO, nthO, curO, mrg, List.reverse_cons, List.reverse_nil, List.nil_append, List.cons_append, List.append_nil, List.getElem?_cons_zero, List.getElem?_cons_succ, Option.map_some, Option.getD_some, List.set_cons_zero, List.set_cons_succ, AV.cellsOf, splice_zero, splice_succ, Nat.zero_add, Nat.reduceAdd]); rfl) ?_
      refine JL.isSlice 3 rfl fun hs1 => ?_
      refine JL.store_box 2 ty27 (.tmp rfl) rfl (.tmp rfl) (by first | rfl | assumption) rfl rfl rfl rfl ?_
      refine JL.nil ?_
      refine thenQ.n ⟨[], _, rfl, rfl, rfl, rfl, rfl, Reown.tkN 6 rfl, trivial, ⟨rfl, trivial⟩, ?_⟩
      refine JX.conv (S' := [9, 8, 5, 4, 3, 2, 1, 0]) rfl (by (try simp only [lvM]); rfl) (by (try simp only [vlF, bxF, tkM, lvM, Flt.val, Flt.bx, List.append_assoc, List.take_succ_cons, List.take_zero, List.append_eq, id_eq, stepsO, List.map_cons, List.map_nil, valO, nthO, curO, mrg, List.reverse_cons, List.reverse_nil, List.nil_append, List.cons_append, List.append_nil, List.getElem?_cons_zero, List.getElem?_cons_succ, Option.map_some, Option.getD_some, List.set_cons_zero, List.set_cons_succ, AV.cellsOf, splice_zero, splice_succ, Nat.zero_add, Nat.reduceAdd]); rfl) ?_
      refine JX.one 7 [true] rfl (by kernel_rfl) (by kernel_rfl) rfl rfl (by kernel_rfl) rfl fun bs7_ pe_ ex_ => ?_
      refine JL.conv (by (try simp only [vlF, bxF, tkM, lvM, Flt.val, Flt.bx, List.append_assoc, List.take_succ_cons, List.take_zero, List.append_eq, id_eq, stepsO, List.map_cons, List.map_nil, valO, nthO, curO, mrg, List.reverse_cons, List.reverse_nil, List.nil_append, List.cons_append, List.append_nil, List.getElem?_cons_zero, List.getElem?_cons_succ, Option.map_some, Option.getD_some, List.set_cons_zero, List.set_cons_succ, AV.cellsOf, splice_zero, splice_succ, Nat.zero_add, Nat.reduceAdd]); rfl) ?_
      refine JL.store_gp (o := 0) 3 ty29 (.tmp rfl) rfl (css_zero _ _) (by rw [V.css_length]; rfl) (.tmp rfl) rfl (V.cs_length _ _) rfl ((congrArg (List.set _ _) (splice_all (by exact V.cs_length _ _))).trans (css_set _ _ _)) rfl ?_
      refine JL.nil ?_
      refine thenQ.n ⟨[], _, rfl, rfl, rfl, rfl, rfl, Reown.tkN 6 rfl, trivial, trivial, ?_⟩
      refine JX.conv (S' := [7, 6, 9, 8, 5, 4, 3, 2, 1, 0]) rfl (by (try simp only [lvM]); rfl) (by (try simp only [vlF, bxF, tkM, lvM, Flt.val, Flt.bx, List.append_assoc, List.take_succ_cons, List.take_zero, List.append_eq, id_eq, stepsO, List.map_cons, List.map_nil, valO, nthO, curO, mrg, List.reverse_cons, List.reverse_nil, List.nil_append, List.cons_append, List.append_nil, List.getElem?_cons_zero, List.getElem?_cons_succ, Option.map_some, Option.getD_some, List.set_cons_zero, List.set_cons_succ, AV.cellsOf, splice_zero, splice_succ, Nat.zero_add, Nat.reduceAdd]); rfl) ?_
      refine JX.fin (by kernel_rfl) (by kernel_rfl) fun bs_ => ?_
      refine QX.conv (by (try simp only [vlF, bxF, tkM, lvM, Flt.val, Flt.bx, List.append_assoc, List.take_succ_cons, List.take_zero, List.append_eq, id_eq, stepsO, List.map_cons, List.map_nil, valO, nthO, curO, mrg, List.reverse_cons, List.reverse_nil, List.nil_append, List.cons_append, List.append_nil, List.getElem?_cons_zero, List.getElem?_cons_succ, Option.map_some, Option.getD_some, List.set_cons_zero, List.set_cons_succ, AV.cellsOf, splice_zero, splice_succ, Nat.zero_add, Nat.reduceAdd]); rfl) ?_
      refine thenQ.n ?_
      refine J.seq ?_
      refine J.reown (Reown.cons (Reown.cons (Reown.shut [_, _, _, _] []))) ?_
      refine J.region_lit ?_
      refine JL.q rfl rfl rfl (QW.assign .const) ?_
      refine JL.nil ?_
      refine thenQ.n ?_
      refine J.ret ?_
      exact ⟨_, selP [.k, .p, .p] _, _, RetEv.one rfl (REv.tmp rfl (.refl _)), rfl, sel_perm [.k, .p, .p] _, BodR.ok (σ := ys ++ [x]) (stFil_ok hq8) hfv ⟨_, rfl, by simp; omega, fun z hz => (List.mem_append.1 hz).elim (hgd z) (fun h => by rw [List.mem_singleton.1 h]; exact hx)⟩⟩
  obtain rfl : q8 = false := c1
  have hfv := tr_okF (s := { s with it := x }) hw hf ⟨hs.st, hs.ev, hx⟩ h0 hq8
  refine J.skip ?_
  refine thenQ.n ?_
  refine J.seq ?_
  refine J.reown (Reown.cons (Reown.cons (Reown.shut [_, _, _, _] []))) ?_
  refine J.region_lit ?_
  refine JL.q rfl rfl rfl (QW.assign .const) ?_
  refine JL.nil ?_
  refine thenQ.n ?_
  refine J.ret ?_
  exact ⟨_, selP [.k, .p, .p] _, _, RetEv.one rfl (REv.tmp rfl (.refl _)), rfl, sel_perm [.k, .p, .p] _, BodR.ok (σ := ys) (stFil_ok hq8) hfv ⟨_, rfl, by omega, hgd⟩⟩
theorem over3_ok {n : Nat} (ih : EvIH n) {y : EX} {s : ScT} {fr : Bool} (hw : y.wf) (hf : y.Fine) (hs : s.good) (hn : y.sz ≤ n) (b b5 b2 b6 b7 : Nat) {j : Nat} {p : Bool × V} {x : V} {f : Int} {o0 : Own} (hj : j < 32) (hW : wFnd b7 b5 b2 b6 b (y.cs fr) j p o0) (hx : x.good) (h0 : okF f) :
    AC Tryz.prog 69 [mb b { s with it := x } f, o0] [.agg (x.cs false), .c (ptr b2), .c (ptr b6), .c (ptr b7), .c (ptr b5)] (BodR (wFnd b7 b5 b2 b6 b (y.cs fr)) (stFnd y s p x f) j b { s with it := x }) := by
  obtain ⟨zs, rfl, hz5, hzs⟩ := hW
  refine AC.of_J Tryz.func69 rfl Tryz.ntmps69 rfl fun w0 A0 => ?_
  refine J.seq ?_
  refine J.reown (Reown.cons (Reown.open _ _)) ?_
  refine J.region_lit ?_
  refine JL.box_agg (.tmp rfl) rfl fun b5 => ?_
  refine JL.q rfl rfl rfl (QW.assign .const) ?_
  refine JL.nil ?_
  refine thenQ.n ?_
  refine J.seq ?_
  refine J.seq ?_
  refine J.region_lit ?_
  refine JL.q rfl rfl rfl (QW.load_box1 4 ty67 (.tmp rfl) rfl rfl) ?_
  refine JL.q rfl rfl rfl (by first | exact QW.load_box 5 ty34 (.tmp rfl) rfl rfl rfl | exact QW.load_box 5 ty34 (.tmp rfl) rfl (take_at (EX.cs_length _ _) rfl) (EX.cs_length _ _)) ?_
  refine JL.callPF [.k, .p] gofn48 rfl Lent.nil (fun _ => (.cons (.tmp rfl) (.cons (.tmp rfl) .nil))) (mtruth_ok (s := { s with it := x }) ih Xc.self hw hf ⟨hs.st, hs.ev, hx⟩ h0 hn) (.inl rfl) (fun k9 x9 o9 h9 => ?_) (fun k9 => ?_)
  rotate_left
  · skip
    refine thenQ.p ?_
    refine thenQ.p ?_
    exact ⟨_, selP [.k, .k, .k, .k, .k] _, _, rfl, rfl, sel_perm [.k, .k, .k, .k, .k] _, BodR.er (stFnd_er (er_of k9)) k9⟩
  obtain ⟨q9, f9, hq9, rfl, rfl⟩ := h9
  refine JL.store_box 2 ty4 (.tmp rfl) rfl (.tmp rfl) (by first | rfl | assumption) rfl rfl rfl rfl ?_
  refine JL.nil ?_
  refine thenQ.n ?_
  refine J.seq ?_
  refine J.region_lit ?_
  refine JL.q rfl rfl rfl (QW.load_box1 2 ty4 (.tmp rfl) rfl rfl) ?_
  refine JL.nil ?_
  refine thenQ.n ?_
  refine J.cond (.tmp rfl) (fun c1 => ?_) (fun c1 => ?_)
  · skip
    obtain rfl : q9 = true := c1
    have hfv := tr_okF (s := { s with it := x }) hw hf ⟨hs.st, hs.ev, hx⟩ h0 hq9
    refine J.region_lit ?_
    refine JL.q rfl rfl rfl (by first | exact QW.load_box 0 ty29 (.tmp rfl) rfl rfl rfl | exact QW.load_box 0 ty29 (.tmp rfl) rfl (take_at (V.cs_length _ _) rfl) (V.cs_length _ _)) ?_
    refine JL.store_box 3 ty29 (.tmp rfl) rfl (.tmp rfl) rfl (V.cs_length _ _) (by rw [hz5]; rfl) (splice_all (by show (V.cs _ _).length = _; rw [V.cs_length, hz5])) rfl ?_
    refine JL.nil ?_
    refine thenQ.n ?_
    refine J.seq ?_
    refine J.region_lit ?_
    refine JL.q rfl rfl rfl (QW.load_box1 2 ty4 (.tmp rfl) rfl rfl) ?_
    refine JL.q rfl rfl rfl (QW.not (.tmp rfl)) ?_
    refine JL.reown (Reown.cons (Reown.cons (Reown.shut [_, _, _, _] []))) ?_
    refine JL.q rfl rfl rfl (QW.assign (.tmp rfl)) ?_
    refine JL.nil ?_
    refine thenQ.n ?_
    refine J.ret ?_
    exact ⟨_, selP [.k, .p, .p] _, _, RetEv.one rfl (REv.tmp rfl (.refl _)), rfl, sel_perm [.k, .p, .p] _, BodR.ok (σ := (true, x)) (stFnd_ok hq9) hfv ⟨_, rfl, V.cs_length _ _, fun _ => ⟨rfl, hx⟩⟩⟩
  obtain rfl : q9 = false := c1
  have hfv := tr_okF (s := { s with it := x }) hw hf ⟨hs.st, hs.ev, hx⟩ h0 hq9
  refine J.skip ?_
  refine thenQ.n ?_
  refine J.seq ?_
  refine J.region_lit ?_
  refine JL.q rfl rfl rfl (QW.load_box1 2 ty4 (.tmp rfl) rfl rfl) ?_
  refine JL.q rfl rfl rfl (QW.not (.tmp rfl)) ?_
  refine JL.reown (Reown.cons (Reown.cons (Reown.shut [_, _, _, _] []))) ?_
  refine JL.q rfl rfl rfl (QW.assign (.tmp rfl)) ?_
  refine JL.nil ?_
  refine thenQ.n ?_
  refine J.ret ?_
  exact ⟨_, selP [.k, .p, .p] _, _, RetEv.one rfl (REv.tmp rfl (.refl _)), rfl, sel_perm [.k, .p, .p] _, BodR.ok (σ := (false, p.2)) (stFnd_ok hq9) hfv ⟨_, rfl, hz5, fun h => by cases h⟩⟩
end Go.Proofs.YtjhonjdhanlbkaaGreat.J

/- Walks: Map, Filter, Find. -/
namespace Go.Proofs.YtjhonjdhanlbkaaGreat.J
open Go Go.RowKit
set_option maxRecDepth 10000
set_option maxHeartbeats 4000000
theorem li_wf32 {l : List V} (hl : ∀ x ∈ l, x.good) (hn : l.length ≤ 32) : (V.li l).wf := .mk (by decide) (by decide) (by decide) (by decide) (by unfold reach; omega) (fun _ h => by cases h) (fun x hx => (hl x hx).wf)
theorem Reown.ovL (b6 b5 b4 b3 b2 m : Own) (l : List Own) : Reown (b6 :: b5 :: b4 :: b3 :: b2 :: m :: l) (b4 :: b3 :: m :: .grp [b5, .arr (.slice none 0 0) eV [], b2, b6] :: l) :=
  (Reown.nilArr eV _).trans ⟨fun x => by simp only [fps_cons, fps_nil, fp_grp, List.count_append, List.count_nil]; omega, fun w A h => by
    simp only [List.forall_mem_cons, ok_grp, List.not_mem_nil, false_implies, implies_true, and_true] at h ⊢
    exact ⟨h.2.2.2.1, h.2.2.2.2.1, h.2.2.2.2.2.2.1, ⟨h.2.2.1, h.1, h.2.2.2.2.2.1, h.2.1⟩, h.2.2.2.2.2.2.2⟩⟩
theorem Reown.ovF (b7 b6 b5 b4 b3 b2 m : Own) (l : List Own) : Reown (b7 :: b6 :: b5 :: b4 :: b3 :: b2 :: m :: l) (b4 :: b3 :: m :: .grp [b7, b5, b2, b6] :: l) :=
  ⟨fun x => by simp only [fps_cons, fps_nil, fp_grp, List.count_append, List.count_nil]; omega, fun w A h => by
    simp only [List.forall_mem_cons, ok_grp, List.not_mem_nil, false_implies, implies_true, and_true] at h ⊢
    exact ⟨h.2.2.2.1, h.2.2.2.2.1, h.2.2.2.2.2.2.1, ⟨h.1, h.2.2.1, h.2.2.2.2.2.1, h.2.1⟩, h.2.2.2.2.2.2.2⟩⟩
/-! what the loops come to -/
theorem it_map {y : EX} {s : ScT} : ∀ (l ys : List V) (f : Int), itE (stMap y s) l ys f = match mapE (fun it f => y.ev { s with it } f) l f with
    | .error e => .error e
    | .ok (r, f') => .ok (ys ++ r, f')
  | [], ys, f => by simp [itE, mapE]
  | x :: l, ys, f => by
    rw [itE, mapE, stMap]
    cases h : y.ev { s with it := x } f with
    | error c => rfl
    | ok p =>
      obtain ⟨v, f1⟩ := p
      simp only [if_true]
      rw [it_map l (ys ++ [v]) f1]
      cases mapE (fun it f => y.ev { s with it } f) l f1 with
      | error c => rfl
      | ok q => simp
theorem it_fil {y : EX} {s : ScT} : ∀ (l ys : List V) (f : Int), itE (stFil y s) l ys f = match filE (fun it f => truE (y.ev { s with it } f)) l f with
    | .error e => .error e
    | .ok (r, f') => .ok (ys ++ r, f')
  | [], ys, f => by simp [itE, filE]
  | x :: l, ys, f => by
    rw [itE, filE, stFil]
    cases h : truE (y.ev { s with it := x } f) with
    | error c => rfl
    | ok p =>
      obtain ⟨t, f1⟩ := p
      simp only [if_true]
      rw [it_fil l _ f1]
      cases filE (fun it f => truE (y.ev { s with it } f)) l f1 with
      | error c => rfl
      | ok q => cases t <;> simp
def fndX (x : Except Int ((Bool × V) × Int)) : ER V := match x with
    | .error e => .error e
    | .ok ((t, x), f') => if t then .ok (x, f') else .error 71
theorem it_fnd {y : EX} {s : ScT} : ∀ (l : List V) (p : Bool × V) (f : Int), p.1 = false → fndE (fun it f => truE (y.ev { s with it } f)) l f = fndX (itE (stFnd y s) l p f)
  | [], ⟨t, v⟩, f, h => by cases h; rfl
  | x :: l, p, f, h => by
    rw [itE, fndE, stFnd]
    cases h : truE (y.ev { s with it := x } f) with
    | error c => rfl
    | ok q =>
      obtain ⟨t, f1⟩ := q
      cases t with
      | true => rfl
      | false => exact it_fnd l (false, p.2) f1 rfl
def ovG (y : EX) (s : ScT) : V → Int → ER V := fun it f => y.ev { s with it } f
theorem ev_ov (o : Int) (a y : EX) (s : ScT) (f : Int) : EX.evOv o [a, y] s f = overE o (ovG y s) (a.ev s f) := by unfold EX.evOv; rfl
theorem ovMap {y : EX} {s : ScT} {r : ER V} {x : Except Int (List V × Int)} (h : itemsE (stMap y s) [] r = x) : overE 27 (ovG y s) r = madeF x := by
  subst h
  cases r with
  | error c => rfl
  | ok p =>
    obtain ⟨v, f⟩ := p
    unfold overE itemsE
    by_cases hk : v.kind = 4
    · simp only [hk]; rw [it_map]; show madeF (mapE (ovG y s) v.items f) = _; unfold ovG; cases mapE (fun it f => y.ev { s with it } f) v.items f <;> rfl
    · simp only [ne_eq, hk, not_false_eq_true, if_true]; rfl
theorem ovFil {y : EX} {s : ScT} {r : ER V} {x : Except Int (List V × Int)} (h : itemsE (stFil y s) [] r = x) : overE 28 (ovG y s) r = madeF x := by
  subst h
  cases r with
  | error c => rfl
  | ok p =>
    obtain ⟨v, f⟩ := p
    unfold overE itemsE
    by_cases hk : v.kind = 4
    · simp only [hk]; rw [it_fil]; show madeF (filE (fun x f => truE (ovG y s x f)) v.items f) = _; unfold ovG; cases filE (fun it f => truE (y.ev { s with it } f)) v.items f <;> rfl
    · simp only [ne_eq, hk, not_false_eq_true, if_true]; rfl
theorem ovFnd {y : EX} {s : ScT} {r : ER V} {x : Except Int ((Bool × V) × Int)} (h : itemsE (stFnd y s) (false, .nil) r = x) : overE 29 (ovG y s) r = fndX x := by
  subst h
  cases r with
  | error c => rfl
  | ok p =>
    obtain ⟨v, f⟩ := p
    by_cases hk : v.kind = 4
    · rw [show itemsE (stFnd y s) (false, .nil) (.ok (v, f)) = itE (stFnd y s) v.items (false, .nil) f from if_neg (fun h => h hk), show overE 29 (ovG y s) (.ok (v, f)) = fndE (fun x f => truE (ovG y s x f)) v.items f from (if_neg (fun h => h hk)).trans rfl]
      exact it_fnd v.items (false, .nil) f rfl
    · rw [show itemsE (stFnd y s) (false, .nil) (.ok (v, f)) = .error 81 from if_pos hk, show overE 29 (ovG y s) (.ok (v, f)) = .error 81 from if_pos hk]; rfl
theorem madeF_yes {l : List V} {f : Int} (h : (V.li l).err = 0) : madeF (.ok (l, f)) = .ok (.li l, f) := by unfold madeF madeE; simp only [h, if_true]
theorem madeF_no {l : List V} {f : Int} (h : ¬ (V.li l).err = 0) : madeF (.ok (l, f)) = .error 84 := by unfold madeF madeE; simp only [h, if_false]
theorem mover_ok {n : Nat} (ih : EvIH n) {o : Int} {bb : Nat} {t : Str} {a y : EX} {s : ScT} {f : Int} {b : Nat} {fr : Bool} {ys : List AV} (he : Xc fr (.mk o bb t [a, y]) ys) (ho : o = 27 ∨ o = 28 ∨ o = 29) (hwa : a.wf) (hwy : y.wf) (hfa : a.Fine) (hfy : y.Fine) (hna : a.sz ≤ n) (hny : y.sz ≤ n) (hs : s.good) (h0 : okF f) :
    AC Tryz.prog 49 [mb b s f] [pb b, .agg ys] (EvR (EX.evOv o [a, y] s f) b s) := by
  subst he
  refine AC.of_J Tryz.func49 rfl Tryz.ntmps49 rfl fun w0 A0 => ?_
  refine J.seq ?_
  refine J.region_lit ?_
  refine JL.box_one (.tmp rfl) rfl rfl fun b2 => ?_
  refine JL.box_agg (.tmp rfl) rfl fun b3 => ?_
  refine JL.alloc z29 rfl rfl fun b4 => ?_
  refine JL.nil ?_
  refine thenQ.n ?_
  refine J.seq ?_
  refine J.region_lit ?_
  refine JL.q rfl rfl rfl (QW.build (idx := [0]) pl29 z29 rfl (.cons .const .nil) rfl rfl rfl rfl) ?_
  refine JL.alloc z29 rfl rfl fun b5 => ?_
  first | refine JL.store_boxF 0 ty29 (.tmp rfl) rfl (.tmp rfl) (by first | rfl | assumption) (by first | rfl | exact V.cs_length _ _) (by first | rfl | exact V.cs_length _ _) rfl ?_ | refine JL.store_box 0 ty29 (.tmp rfl) rfl (.tmp rfl) (by first | rfl | assumption) (by first | rfl | exact V.cs_length _ _) rfl rfl rfl ?_
  refine JL.nil ?_
  refine thenQ.n ?_
  refine J.seq ?_
  refine J.seq ?_
  refine J.region_lit ?_
  refine JL.q rfl rfl rfl (QW.field_ptr fo34_3 (.tmp rfl) rfl) ?_
  refine JL.q rfl rfl rfl (QW.load_box1 2 ty32 (.tmp rfl) rfl rfl) ?_
  refine JL.q rfl rfl rfl (QW.index_sl sl32 ty34 rfl (.tmp rfl) .const (by first | rfl | omega | (simp; done)) (by rfl)) ?_
  refine JL.q rfl rfl rfl (by first | exact QW.load_ref ty34 (.tmp rfl) rfl rfl | exact QW.load_ref ty34 (.tmp rfl) (take_at0 (EX.cs_length _ _) rfl) (EX.cs_length _ _)) ?_
  refine JL.alloc z34 rfl rfl fun b6 => ?_
  first | refine JL.store_boxF 0 ty34 (.tmp rfl) rfl (.tmp rfl) (by first | rfl | assumption) (by first | rfl | exact EX.cs_length _ _) (by first | rfl | exact EX.cs_length _ _) rfl ?_ | refine JL.store_box 0 ty34 (.tmp rfl) rfl (.tmp rfl) (by first | rfl | assumption) (by first | rfl | exact EX.cs_length _ _) rfl rfl rfl ?_
  refine JL.nil ?_
  refine thenQ.n ?_
  refine J.seq ?_
  refine J.region_lit ?_
  refine JL.q rfl rfl rfl (QW.field_ptr fo34_0 (.tmp rfl) rfl) ?_
  refine JL.q rfl rfl rfl (QW.load_box1 3 ty3 (.tmp rfl) rfl rfl) ?_
  refine JL.nil ?_
  refine thenQ.n ?_
  refine J.block ?_
  refine J.seq ?_
  refine J.region_lit ?_
  refine JL.q rfl rfl rfl (QW.eql (.tmp rfl) .const) ?_
  refine JL.q rfl rfl rfl (QW.assign (.tmp rfl)) ?_
  refine JL.nil ?_
  refine thenQ.n ?_
  refine J.cond (.tmp rfl) (fun c1 => ?_) (fun c1 => ?_)
  · skip
    obtain rfl : o = 27 := by simpa using c1
    refine J.regionX mixed ?_
    refine JX.o 0 4 [] rfl rfl rfl rfl rfl rfl rfl rfl rfl (fun ow_ ho_ => (.q rfl (QW.load_box1 4 ty67 (.tmp rfl) ho_ rfl))) ?_
    refine JX.f 1 [] rfl rfl rfl rfl rfl rfl rfl rfl (fun ow_ => (.q rfl (QW.field_ptr fo34_3 (.tmp rfl) rfl))) ?_
    refine JX.o 2 3 [28] rfl rfl rfl rfl rfl rfl rfl rfl rfl (fun ow_ ho_ => (.q rfl (QW.load_box1 3 ty32 (.tmp rfl) ho_ rfl))) ?_
    refine JX.f 3 [29] rfl rfl rfl rfl rfl rfl rfl rfl (fun ow_ => (.q rfl (QW.index_sl sl32 ty34 rfl (.tmp rfl) .const (by first | rfl | omega | (simp; done)) (by rfl)))) ?_
    refine JX.f 4 [30] rfl rfl rfl rfl rfl rfl rfl rfl (fun ow_ => (.q rfl (by first | exact QW.load_ref ty34 (.tmp rfl) rfl rfl | exact QW.load_ref ty34 (.tmp rfl) (take_at0 (EX.cs_length _ _) rfl) (EX.cs_length _ _)))) ?_
    refine JX.f 5 [] rfl rfl rfl rfl rfl rfl rfl rfl (fun ow_ => (.q rfl (QW.mkFunc .nil (.cons (.tmp rfl) (.cons (.tmp rfl) (.cons (.tmp rfl) .nil)))))) ?_
    refine JX.one 6 [true, true, true, true, true, true] rfl (by kernel_rfl) (by kernel_rfl) rfl rfl (by kernel_rfl) rfl fun bs6_ pe_ ex_ => ?_
    refine JL.conv (by (try simp only [vlF, bxF, tkM, lvM, Flt.val, Flt.bx, List.append_assoc, List.take_succ_cons, List.take_zero, List.append_eq, id_eq, stepsO, List.map_cons, List.map_nil, valO, nthO, curO, mrg, List.reverse_cons, List.reverse_nil, List.nil_append, List.cons_append, List.append_nil, List.getElem?_cons_zero, List.getElem?_cons_succ, Option.map_some, Option.getD_some, List.set_cons_zero, List.set_cons_succ, AV.cellsOf, splice_zero, splice_succ, Nat.zero_add, Nat.reduceAdd]); rfl) ?_
    refine JL.reown (Reown.ovL _ _ _ _ _ _ _) ?_
    refine JL.callPF [.k, .k, .p, .p] gofn66 rfl Lent.nil (fun _ => (.cons (.tmp rfl) (.cons (.tmp rfl) (.cons (.tmp rfl) .nil)))) (mitems_ok (W := wLst b5 b2 b6 b (y.cs fr)) (stp := stMap y s) (ca := [ptr b5, ptr b2, ptr b6]) ih gofn67 (fun j σ x f o0 hj hW hx h0 => over1_ok ih hwy hfy hs hny b b5 b2 b6 hj hW hx h0) Xc.self hwa hfa hs h0 hna (σ0 := []) ⟨_, rfl, Nat.le_refl _, fun _ h => by cases h⟩) (.inl rfl) (fun k33 x33 o33 h33 => ?_) (fun k33 => ?_)
    rotate_left
    · skip
      refine thenQ.p ?_
      refine blkQ.p ?_
      refine thenQ.p ?_
      exact ⟨_, selP [.k, .k] _, _, rfl, rfl, sel_perm [.k, .k] _, EvR.er ((ev_ov 27 a y s f).trans (ovMap (er_of k33))) k33⟩
    obtain ⟨σ1, f1, j1, o1_, hi1, hj1, ⟨v1, rfl, hl1, hgd1⟩, hf1, rfl, rfl⟩ := h33
    refine JL.nil ?_
    refine thenQ.n ⟨[_], _, rfl, rfl, rfl, rfl, rfl, Reown.mrgN 4 rfl rfl, ⟨rfl, rfl⟩, trivial, ?_⟩
    refine JX.conv (S' := [6, 5, 4, 3, 2, 1, 0]) rfl (by (try simp only [lvM]); rfl) (by (try simp only [vlF, bxF, tkM, lvM, Flt.val, Flt.bx, List.append_assoc, List.take_succ_cons, List.take_zero, List.append_eq, id_eq, stepsO, List.map_cons, List.map_nil, valO, nthO, curO, mrg, List.reverse_cons, List.reverse_nil, List.nil_append, List.cons_append, List.append_nil, List.getElem?_cons_zero, List.getElem?_cons_succ, Option.map_some, Option.getD_some, List.set_cons_zero, List.set_cons_succ, AV.cellsOf, splice_zero, splice_succ, Nat.zero_add, Nat.reduceAdd]); rfl) ?_
    refine JX.fin (by kernel_rfl) (by kernel_rfl) fun bs_ => ?_
    refine QX.conv (by (try simp only [vlF, bxF, tkM, lvM, Flt.val, Flt.bx, List.append_assoc, List.take_succ_cons, List.take_zero, List.append_eq, id_eq, stepsO, List.map_cons, List.map_nil, valO, nthO, curO, mrg, List.reverse_cons, List.reverse_nil, List.nil_append, List.cons_append, List.append_nil, List.getElem?_cons_zero, List.getElem?_cons_succ, Option.map_some, Option.getD_some, List.set_cons_zero, List.set_cons_succ, AV.cellsOf, splice_zero, splice_succ, Nat.zero_add, Nat.reduceAdd]); rfl) ?_
    refine blkQ.n ?_
    refine thenQ.n ?_
    refine J.seq ?_
    refine J.reown (Reown.cons (Reown.cons (Reown.cons (Reown.open _ [])))) ?_
    refine J.closeArr 4 rfl (by rw [V.css_length]; show _ * 80 ≤ _; unfold reach; omega) rfl (fun z hz => by simp only [mb, fps_cons, fps_nil, Own.fp, List.append_nil, List.mem_singleton] at hz; subst hz; simp [mb, fps_cons, Own.fp]) ?_
    refine J.region_lit ?_
    refine JL.q rfl rfl rfl (by first | exact QW.load_box 3 ty29 (.tmp rfl) rfl rfl rfl | exact QW.load_box 3 ty29 (.tmp rfl) rfl (take_at (V.cs_length _ _) rfl) (V.cs_length _ _)) ?_
    refine JL.callPF [] gofn70 rfl Lent.nil (fun _ => (.cons (Ev.le (.tmp rfl) (.aggL (.cons (.refl _) (.cons (.refl _) (.cons (.refl _) (.cons (.nil false false _) (.cons (.fact (by simp) (.slL (fr := true) (clip := false) (fun h => by cases h) rfl (V.css_sz false _) (.refl _))) .nil))))))) .nil)) (made_ok (fr := false) (v := .li σ1) Vc.self (li_wf32 hgd1 (by omega))) (.inl rfl) (fun k44 x44 o44 h44 => ?_) (fun k44 => ?_)
    rotate_left
    · skip
      refine thenQ.p ?_
      exact ⟨_, selP [.k, .k, .k, .k, .k, .k] _, _, rfl, rfl, sel_perm [.k, .k, .k, .k, .k, .k] _, EvR.er (c := 84) ((ev_ov 27 a y s f).trans ((ovMap hi1).trans (madeF_no k44))) (by decide)⟩
    obtain ⟨rfl, rfl⟩ := h44
    first | refine JL.store_boxF 0 ty29 (.tmp rfl) rfl (.tmp rfl) (by first | rfl | assumption) (by first | rfl | exact V.cs_length _ _) (by first | rfl | exact V.cs_length _ _) rfl ?_ | refine JL.store_box 0 ty29 (.tmp rfl) rfl (.tmp rfl) (by first | rfl | assumption) (by first | rfl | exact V.cs_length _ _) rfl rfl rfl ?_
    refine JL.nil ?_
    refine thenQ.n ?_
    refine J.ret ?_
    exact ⟨_, selP [.k, .k, .p, .k, .k, .k] _, _, RetEv.one rfl (by first | exact REv.cell 0 ty29 rfl rfl rfl rfl (.refl _) | exact REv.cell 0 ty29 rfl rfl (take_at (V.cs_length _ _) rfl) (V.cs_length _ _) (.refl _)), rfl, sel_perm [.k, .k, .p, .k, .k, .k] _, EvR.ok ((ev_ov 27 a y s f).trans ((ovMap hi1).trans (madeF_yes k44)))⟩
  have n27 : ¬ o = 27 := by simpa using c1
  refine J.seq ?_
  refine J.region_lit ?_
  refine JL.q rfl rfl rfl (QW.eql (.tmp rfl) .const) ?_
  refine JL.q rfl rfl rfl (QW.assign (.tmp rfl)) ?_
  refine JL.nil ?_
  refine thenQ.n ?_
  refine J.cond (.tmp rfl) (fun c2 => ?_) (fun c2 => ?_)
  · skip
    obtain rfl : o = 28 := by simpa using c2
    refine J.regionX mixed ?_
    refine JX.o 0 4 [] rfl rfl rfl rfl rfl rfl rfl rfl rfl (fun ow_ ho_ => (.q rfl (QW.load_box1 4 ty67 (.tmp rfl) ho_ rfl))) ?_
    refine JX.f 1 [] rfl rfl rfl rfl rfl rfl rfl rfl (fun ow_ => (.q rfl (QW.field_ptr fo34_3 (.tmp rfl) rfl))) ?_
    refine JX.o 2 3 [37] rfl rfl rfl rfl rfl rfl rfl rfl rfl (fun ow_ ho_ => (.q rfl (QW.load_box1 3 ty32 (.tmp rfl) ho_ rfl))) ?_
    refine JX.f 3 [38] rfl rfl rfl rfl rfl rfl rfl rfl (fun ow_ => (.q rfl (QW.index_sl sl32 ty34 rfl (.tmp rfl) .const (by first | rfl | omega | (simp; done)) (by rfl)))) ?_
    refine JX.f 4 [39] rfl rfl rfl rfl rfl rfl rfl rfl (fun ow_ => (.q rfl (by first | exact QW.load_ref ty34 (.tmp rfl) rfl rfl | exact QW.load_ref ty34 (.tmp rfl) (take_at0 (EX.cs_length _ _) rfl) (EX.cs_length _ _)))) ?_
    refine JX.f 5 [] rfl rfl rfl rfl rfl rfl rfl rfl (fun ow_ => (.q rfl (QW.mkFunc .nil (.cons (.tmp rfl) (.cons (.tmp rfl) (.cons (.tmp rfl) .nil)))))) ?_
    refine JX.one 6 [true, true, true, true, true, true] rfl (by kernel_rfl) (by kernel_rfl) rfl rfl (by kernel_rfl) rfl fun bs6_ pe_ ex_ => ?_
    refine JL.conv (by (try simp only [vlF, bxF, tkM, lvM, Flt.val, Flt.bx, List.append_assoc, List.take_succ_cons, List.take_zero, List.append_eq, id_eq, stepsO, List.map_cons, List.map_nil, valO, nthO, curO, mrg, List.reverse_cons, List.reverse_nil, List.nil_append, List.cons_append, List.append_nil, List.getElem?_cons_zero, List.getElem?_cons_succ, Option.map_some, Option.getD_some, List.set_cons_zero, List.set_cons_succ, AV.cellsOf, splice_zero, splice_succ, Nat.zero_add, Nat.reduceAdd]); rfl) ?_
    refine JL.reown (Reown.ovL _ _ _ _ _ _ _) ?_
    refine JL.callPF [.k, .k, .p, .p] gofn66 rfl Lent.nil (fun _ => (.cons (.tmp rfl) (.cons (.tmp rfl) (.cons (.tmp rfl) .nil)))) (mitems_ok (W := wLst b5 b2 b6 b (y.cs fr)) (stp := stFil y s) (ca := [ptr b2, ptr b6, ptr b5]) ih gofn68 (fun j σ x f o0 hj hW hx h0 => over2_ok ih hwy hfy hs hny b b5 b2 b6 hj hW hx h0) Xc.self hwa hfa hs h0 hna (σ0 := []) ⟨_, rfl, Nat.le_refl _, fun _ h => by cases h⟩) (.inl rfl) (fun k42 x42 o42 h42 => ?_) (fun k42 => ?_)
    rotate_left
    · skip
      refine thenQ.p ?_
      refine blkQ.p ?_
      refine thenQ.p ?_
      exact ⟨_, selP [.k, .k] _, _, rfl, rfl, sel_perm [.k, .k] _, EvR.er ((ev_ov 28 a y s f).trans (ovFil (er_of k42))) k42⟩
    obtain ⟨σ1, f1, j1, o1_, hi1, hj1, ⟨v1, rfl, hl1, hgd1⟩, hf1, rfl, rfl⟩ := h42
    refine JL.nil ?_
    refine thenQ.n ⟨[_], _, rfl, rfl, rfl, rfl, rfl, Reown.mrgN 4 rfl rfl, ⟨rfl, rfl⟩, trivial, ?_⟩
    refine JX.conv (S' := [6, 5, 4, 3, 2, 1, 0]) rfl (by (try simp only [lvM]); rfl) (by (try simp only [vlF, bxF, tkM, lvM, Flt.val, Flt.bx, List.append_assoc, List.take_succ_cons, List.take_zero, List.append_eq, id_eq, stepsO, List.map_cons, List.map_nil, valO, nthO, curO, mrg, List.reverse_cons, List.reverse_nil, List.nil_append, List.cons_append, List.append_nil, List.getElem?_cons_zero, List.getElem?_cons_succ, Option.map_some, Option.getD_some, List.set_cons_zero, List.set_cons_succ, AV.cellsOf, splice_zero, splice_succ, Nat.zero_add, Nat.reduceAdd]); rfl) ?_
    refine JX.fin (by kernel_rfl) (by kernel_rfl) fun bs_ => ?_
    refine QX.conv (by (try simp only [vlF, bxF, tkM, lvM, Flt.val, Flt.bx, List.append_assoc, List.take_succ_cons, List.take_zero, List.append_eq, id_eq, stepsO, List.map_cons, List.map_nil, valO, nthO, curO, mrg, List.reverse_cons, List.reverse_nil, List.nil_append, List.cons_append, List.append_nil, List.getElem?_cons_zero, List.getElem?_cons_succ, Option.map_some, Option.getD_some, List.set_cons_zero, List.set_cons_succ, AV.cellsOf, splice_zero, splice_succ, Nat.zero_add, Nat.reduceAdd]); rfl) ?_
    refine blkQ.n ?_
    refine thenQ.n ?_
    refine J.seq ?_
    refine J.reown (Reown.cons (Reown.cons (Reown.cons (Reown.open _ [])))) ?_
    refine J.closeArr 4 rfl (by rw [V.css_length]; show _ * 80 ≤ _; unfold reach; omega) rfl (fun z hz => by simp only [mb, fps_cons, fps_nil, Own.fp, List.append_nil, List.mem_singleton] at hz; subst hz; simp [mb, fps_cons, Own.fp]) ?_
    refine J.region_lit ?_
    refine JL.q rfl rfl rfl (by first | exact QW.load_box 3 ty29 (.tmp rfl) rfl rfl rfl | exact QW.load_box 3 ty29 (.tmp rfl) rfl (take_at (V.cs_length _ _) rfl) (V.cs_length _ _)) ?_
    refine JL.callPF [] gofn70 rfl Lent.nil (fun _ => (.cons (Ev.le (.tmp rfl) (.aggL (.cons (.refl _) (.cons (.refl _) (.cons (.refl _) (.cons (.nil false false _) (.cons (.fact (by simp) (.slL (fr := true) (clip := false) (fun h => by cases h) rfl (V.css_sz false _) (.refl _))) .nil))))))) .nil)) (made_ok (fr := false) (v := .li σ1) Vc.self (li_wf32 hgd1 (by omega))) (.inl rfl) (fun k44 x44 o44 h44 => ?_) (fun k44 => ?_)
    rotate_left
    · skip
      refine thenQ.p ?_
      exact ⟨_, selP [.k, .k, .k, .k, .k, .k] _, _, rfl, rfl, sel_perm [.k, .k, .k, .k, .k, .k] _, EvR.er (c := 84) ((ev_ov 28 a y s f).trans ((ovFil hi1).trans (madeF_no k44))) (by decide)⟩
    obtain ⟨rfl, rfl⟩ := h44
    first | refine JL.store_boxF 0 ty29 (.tmp rfl) rfl (.tmp rfl) (by first | rfl | assumption) (by first | rfl | exact V.cs_length _ _) (by first | rfl | exact V.cs_length _ _) rfl ?_ | refine JL.store_box 0 ty29 (.tmp rfl) rfl (.tmp rfl) (by first | rfl | assumption) (by first | rfl | exact V.cs_length _ _) rfl rfl rfl ?_
    refine JL.nil ?_
    refine thenQ.n ?_
    refine J.ret ?_
    exact ⟨_, selP [.k, .k, .p, .k, .k, .k] _, _, RetEv.one rfl (by first | exact REv.cell 0 ty29 rfl rfl rfl rfl (.refl _) | exact REv.cell 0 ty29 rfl rfl (take_at (V.cs_length _ _) rfl) (V.cs_length _ _) (.refl _)), rfl, sel_perm [.k, .k, .p, .k, .k, .k] _, EvR.ok ((ev_ov 28 a y s f).trans ((ovFil hi1).trans (madeF_yes k44)))⟩
  have n28 : ¬ o = 28 := by simpa using c2
  obtain rfl : o = 29 := by omega
  refine J.seq ?_
  refine J.region_lit ?_
  refine JL.alloc z4 rfl rfl fun b7 => ?_
  refine JL.store_box 0 ty4 (.tmp rfl) rfl .const (by first | rfl | assumption) rfl rfl rfl rfl ?_
  refine JL.nil ?_
  refine thenQ.n ?_
  refine J.seq ?_
  refine J.regionX mixed ?_
  refine JX.o 0 5 [] rfl rfl rfl rfl rfl rfl rfl rfl rfl (fun ow_ ho_ => (.q rfl (QW.load_box1 5 ty67 (.tmp rfl) ho_ rfl))) ?_
  refine JX.f 1 [] rfl rfl rfl rfl rfl rfl rfl rfl (fun ow_ => (.q rfl (QW.field_ptr fo34_3 (.tmp rfl) rfl))) ?_
  refine JX.o 2 4 [16] rfl rfl rfl rfl rfl rfl rfl rfl rfl (fun ow_ ho_ => (.q rfl (QW.load_box1 4 ty32 (.tmp rfl) ho_ rfl))) ?_
  refine JX.f 3 [17] rfl rfl rfl rfl rfl rfl rfl rfl (fun ow_ => (.q rfl (QW.index_sl sl32 ty34 rfl (.tmp rfl) .const (by first | rfl | omega | (simp; done)) (by rfl)))) ?_
  refine JX.f 4 [18] rfl rfl rfl rfl rfl rfl rfl rfl (fun ow_ => (.q rfl (by first | exact QW.load_ref ty34 (.tmp rfl) rfl rfl | exact QW.load_ref ty34 (.tmp rfl) (take_at0 (EX.cs_length _ _) rfl) (EX.cs_length _ _)))) ?_
  refine JX.f 5 [] rfl rfl rfl rfl rfl rfl rfl rfl (fun ow_ => (.q rfl (QW.mkFunc .nil (.cons (.tmp rfl) (.cons (.tmp rfl) (.cons (.tmp rfl) (.cons (.tmp rfl) .nil))))))) ?_
  refine JX.one 6 [true, true, true, true, true, true] rfl (by kernel_rfl) (by kernel_rfl) rfl rfl (by kernel_rfl) rfl fun bs6_ pe_ ex_ => ?_
  refine JL.conv (by (try simp only [vlF, bxF, tkM, lvM, Flt.val, Flt.bx, List.append_assoc, List.take_succ_cons, List.take_zero, List.append_eq, id_eq, stepsO, List.map_cons, List.map_nil, valO, nthO, curO, mrg, List.reverse_cons, List.reverse_nil, List.nil_append, List.cons_append, List.append_nil, List.getElem?_cons_zero, List.getElem?_cons_succ, Option.map_some, Option.getD_some, List.set_cons_zero, List.set_cons_succ, AV.cellsOf, splice_zero, splice_succ, Nat.zero_add, Nat.reduceAdd]); rfl) ?_
  refine JL.reown (Reown.ovF _ _ _ _ _ _ _ _) ?_
  refine JL.callPF [.k, .k, .p, .p] gofn66 rfl Lent.nil (fun _ => (.cons (.tmp rfl) (.cons (.tmp rfl) (.cons (.tmp rfl) .nil)))) (mitems_ok (W := wFnd b7 b5 b2 b6 b (y.cs fr)) (stp := stFnd y s) (ca := [ptr b2, ptr b6, ptr b7, ptr b5]) ih gofn69 (fun j σ x f o0 hj hW hx h0 => over3_ok ih hwy hfy hs hny b b5 b2 b6 b7 hj hW hx h0) Xc.self hwa hfa hs h0 hna (σ0 := (false, .nil)) ⟨_, rfl, rfl, fun h => by cases h⟩) (.inl rfl) (fun k21 x21 o21 h21 => ?_) (fun k21 => ?_)
  rotate_left
  · skip
    refine thenQ.p ?_
    refine thenQ.p ?_
    refine blkQ.p ?_
    refine thenQ.p ?_
    exact ⟨_, selP [.k, .k] _, _, rfl, rfl, sel_perm [.k, .k] _, EvR.er ((ev_ov 29 a y s f).trans (ovFnd (er_of k21))) k21⟩
  obtain ⟨⟨t1, x1⟩, f1, j1, o1_, hi1, hj1, ⟨zs, rfl, hz5, hzs⟩, hf1, rfl, rfl⟩ := h21
  refine JL.nil ?_
  refine thenQ.n ⟨[_], _, rfl, rfl, rfl, rfl, rfl, Reown.mrgN 4 rfl rfl, ⟨rfl, rfl⟩, trivial, ?_⟩
  refine JX.conv (S' := [6, 5, 4, 3, 2, 1, 0]) rfl (by (try simp only [lvM]); rfl) (by (try simp only [vlF, bxF, tkM, lvM, Flt.val, Flt.bx, List.append_assoc, List.take_succ_cons, List.take_zero, List.append_eq, id_eq, stepsO, List.map_cons, List.map_nil, valO, nthO, curO, mrg, List.reverse_cons, List.reverse_nil, List.nil_append, List.cons_append, List.append_nil, List.getElem?_cons_zero, List.getElem?_cons_succ, Option.map_some, Option.getD_some, List.set_cons_zero, List.set_cons_succ, AV.cellsOf, splice_zero, splice_succ, Nat.zero_add, Nat.reduceAdd]); rfl) ?_
  refine JX.fin (by kernel_rfl) (by kernel_rfl) fun bs_ => ?_
  refine QX.conv (by (try simp only [vlF, bxF, tkM, lvM, Flt.val, Flt.bx, List.append_assoc, List.take_succ_cons, List.take_zero, List.append_eq, id_eq, stepsO, List.map_cons, List.map_nil, valO, nthO, curO, mrg, List.reverse_cons, List.reverse_nil, List.nil_append, List.cons_append, List.append_nil, List.getElem?_cons_zero, List.getElem?_cons_succ, Option.map_some, Option.getD_some, List.set_cons_zero, List.set_cons_succ, AV.cellsOf, splice_zero, splice_succ, Nat.zero_add, Nat.reduceAdd]); rfl) ?_
  refine thenQ.n ?_
  refine J.seq ?_
  refine J.reown (Reown.cons (Reown.cons (Reown.cons (Reown.open _ [])))) ?_
  refine J.region_lit ?_
  refine JL.q rfl rfl rfl (QW.load_box1 3 ty4 (.tmp rfl) rfl rfl) ?_
  refine JL.callPF [] gofn45 rfl Lent.nil (fun _ => (.cons (.tmp rfl) (.cons .const .nil))) (nd_ok _ _) (.inl rfl) (fun k23 x23 o23 h23 => ?_) (fun k23 => ?_)
  rotate_left
  · skip
    refine thenQ.p ?_
    refine blkQ.p ?_
    refine thenQ.p ?_
    exact ⟨_, selP [.k, .k, .k, .k, .k, .k, .k] _, _, rfl, rfl, sel_perm [.k, .k, .k, .k, .k, .k, .k] _, EvR.er (c := 71) ((ev_ov 29 a y s f).trans ((ovFnd hi1).trans (if_neg k23))) (by decide)⟩
  obtain ⟨rfl, rfl⟩ := h23
  refine JL.nil ?_
  refine thenQ.n ?_
  refine J.seq ?_
  obtain ⟨rfl, hgx⟩ := hzs k23
  refine J.region_lit ?_
  refine JL.q rfl rfl rfl (by first | exact QW.load_box 4 ty29 (.tmp rfl) rfl rfl rfl | exact QW.load_box 4 ty29 (.tmp rfl) rfl (take_at (V.cs_length _ _) rfl) (V.cs_length _ _)) ?_
  first | refine JL.store_boxF 0 ty29 (.tmp rfl) rfl (.tmp rfl) (by first | rfl | assumption) (by first | rfl | exact V.cs_length _ _) (by first | rfl | exact V.cs_length _ _) rfl ?_ | refine JL.store_box 0 ty29 (.tmp rfl) rfl (.tmp rfl) (by first | rfl | assumption) (by first | rfl | exact V.cs_length _ _) rfl rfl rfl ?_
  refine JL.nil ?_
  refine thenQ.n ?_
  refine J.ret ?_
  refine blkQ.r ?_
  refine thenQ.r ?_
  exact ⟨_, selP [.k, .k, .p, .k, .k, .k, .k] _, _, RetEv.one rfl (by first | exact REv.cell 0 ty29 rfl rfl rfl rfl (.refl _) | exact REv.cell 0 ty29 rfl rfl (take_at (V.cs_length _ _) rfl) (V.cs_length _ _) (.refl _)), rfl, sel_perm [.k, .k, .p, .k, .k, .k, .k] _, EvR.ok ((ev_ov 29 a y s f).trans ((ovFnd hi1).trans (if_pos k23)))⟩
end Go.Proofs.YtjhonjdhanlbkaaGreat.J

/- What the machine's branches come to, plain. -/
namespace Go.Proofs.YtjhonjdhanlbkaaGreat.J
open Go Go.RowKit
theorem EX.ok_args {o : Int} {b : Nat} {t : Str} {l : List EX} (h : (EX.mk o b t l).ok = true) : 0 ≤ o ∧ o < 30 ∧ l.length ≤ 8 ∧ (o = 23 ∨ o ≤ 7 ∨ ((o = 8 ∨ o = 10 ∨ o = 15 ∨ o = 20 ∨ o = 26) ∧ l.length = 1) ∨ (o = 21 ∧ l.length = 3) ∨ (8 ≤ o ∧ o ≠ 8 ∧ o ≠ 10 ∧ o ≠ 15 ∧ o ≠ 20 ∧ o ≠ 26 ∧ o ≠ 21 ∧ o ≠ 23 ∧ l.length = 2)) := by
  have hb := EX.ok_bounds h
  simp only [EX.ok, Bool.and_eq_true, Bool.or_eq_true, decide_eq_true_eq, beq_iff_eq] at h
  obtain ⟨⟨⟨⟨⟨-, h1⟩, -⟩, -⟩, -⟩, -⟩ := h
  simp only [EX.op, EX.args] at h1
  unfold argsN at h1
  refine ⟨hb.1, hb.2.1, hb.2.2.2, ?_⟩
  repeat' split at h1
  all_goals omega
theorem etwo {l : List EX} (h : l.length = 2) : ∃ a b, l = [a, b] := by
  match l, h with
  | [a, b], _ => exact ⟨a, b, rfl⟩
theorem ethree {l : List EX} (h : l.length = 3) : ∃ a b c, l = [a, b, c] := by
  match l, h with
  | [a, b, c], _ => exact ⟨a, b, c, rfl⟩
section
variable {o : Int} {b : Nat} {t : Str} {l : List EX} {s : ScT} {f : Int} {a y z : EX}
theorem ev_lo (h : f < 1) : (EX.mk o b t l).ev s f = .error 83 := by rw [EX.ev, if_pos h]
theorem ev_0 (h : ¬ f < 1) : (EX.mk 0 b t l).ev s f = .ok (.nil, f - 1) := by rw [EX.ev, if_neg h]; rfl
theorem ev_1 (h : ¬ f < 1) : (EX.mk 1 b t l).ev s f = .ok (.tr false, f - 1) := by rw [EX.ev, if_neg h]; rfl
theorem ev_2 (h : ¬ f < 1) : (EX.mk 2 b t l).ev s f = .ok (.tr true, f - 1) := by rw [EX.ev, if_neg h]; rfl
theorem ev_3 (h : ¬ f < 1) : (EX.mk 3 b t l).ev s f = .ok (.nu b, f - 1) := by rw [EX.ev, if_neg h]; rfl
theorem ev_4 (h : ¬ f < 1) : (EX.mk 4 b t l).ev s f = .ok (.tx t, f - 1) := by rw [EX.ev, if_neg h]; rfl
theorem ev_5 (h : ¬ f < 1) : (EX.mk 5 b t l).ev s f = .ok (s.st, f - 1) := by rw [EX.ev, if_neg h]; rfl
theorem ev_6 (h : ¬ f < 1) : (EX.mk 6 b t l).ev s f = .ok (s.ev, f - 1) := by rw [EX.ev, if_neg h]; rfl
theorem ev_7 (h : ¬ f < 1) : (EX.mk 7 b t l).ev s f = .ok (s.it, f - 1) := by rw [EX.ev, if_neg h]; rfl
theorem ev_18 (h : ¬ f < 1) : (EX.mk 18 b t l).ev s f = EX.evAO false l s (f - 1) := by rw [EX.ev, if_neg h]; rfl
theorem ev_19 (h : ¬ f < 1) : (EX.mk 19 b t l).ev s f = EX.evAO true l s (f - 1) := by rw [EX.ev, if_neg h]; rfl
theorem ev_21 (h : ¬ f < 1) : (EX.mk 21 b t l).ev s f = EX.evIf l s (f - 1) := by rw [EX.ev, if_neg h]; rfl
theorem ev_over (ho : o = 27 ∨ o = 28 ∨ o = 29) (h : ¬ f < 1) : (EX.mk o b t l).ev s f = EX.evOv o l s (f - 1) := by
  rcases ho with rfl | rfl | rfl <;> (rw [EX.ev, if_neg h]; rfl)
def plE (o : Int) (t : Str) (r : ER (List V)) : ER V := match r with
  | .error e => .error e
  | .ok (vs, f1) => match plainE o t vs with
    | .error e => .error e
    | .ok v => .ok (v, f1)
theorem ev_pl (h : ¬ f < 1) (hn : o = 23 ∨ (8 ≤ o ∧ o ≠ 18 ∧ o ≠ 19 ∧ o ≠ 21 ∧ o ≠ 27 ∧ o ≠ 28 ∧ o ≠ 29)) : (EX.mk o b t l).ev s f = plE o t (EX.evs l s (f - 1)) := by
  rw [EX.ev, if_neg h, if_neg (by omega), if_neg (by omega), if_neg (by omega), if_neg (by omega), if_neg (by omega), if_neg (by omega), if_neg (by omega), if_neg (by omega), if_neg (by omega), if_neg (by omega), if_neg (by omega), if_neg (by omega)]
  rfl
theorem plE_ok {vs : List V} {v : V} {r : ER (List V)} {f1 : Int} (h : r = .ok (vs, f1)) (h2 : plainE o t vs = .ok v) : plE o t r = .ok (v, f1) := by subst h; simp only [plE, h2]
theorem plE_er {vs : List V} {r : ER (List V)} {f1 c : Int} (h : r = .ok (vs, f1)) (h2 : plainE o t vs = .error c) : plE o t r = .error c := by subst h; simp only [plE, h2]
theorem plE_no {r : ER (List V)} {c : Int} (h : r = .error c) : plE o t r = .error c := by subst h; rfl
theorem ao_er {k : Bool} {c : Int} (h : truE (a.ev s f) = .error c) : EX.evAO k [a, y] s f = .error c := by unfold EX.evAO; rw [h]
theorem ao_1 {k : Bool} {f1 : Int} (h : truE (a.ev s f) = .ok (k, f1)) : EX.evAO k [a, y] s f = .ok (.tr k, f1) := by unfold EX.evAO; rw [h]; simp
theorem ao_2 {k : Bool} {f1 c : Int} (h : truE (a.ev s f) = .ok (!k, f1)) (h2 : truE (y.ev s f1) = .error c) : EX.evAO k [a, y] s f = .error c := by unfold EX.evAO; rw [h]; cases k <;> simp [h2]
theorem ao_3 {k b2 : Bool} {f1 f2 : Int} (h : truE (a.ev s f) = .ok (!k, f1)) (h2 : truE (y.ev s f1) = .ok (b2, f2)) : EX.evAO k [a, y] s f = .ok (.tr b2, f2) := by unfold EX.evAO; rw [h]; cases k <;> simp [h2]
theorem if_er {c : Int} (h : truE (a.ev s f) = .error c) : EX.evIf [a, y, z] s f = .error c := by unfold EX.evIf; rw [h]
theorem if_t {f1 : Int} (h : truE (a.ev s f) = .ok (true, f1)) : EX.evIf [a, y, z] s f = y.ev s f1 := by unfold EX.evIf; rw [h]; rfl
theorem if_f {f1 : Int} (h : truE (a.ev s f) = .ok (false, f1)) : EX.evIf [a, y, z] s f = z.ev s f1 := by unfold EX.evIf; rw [h]; rfl
def joinV (vs : List V) : ER (List V) → ER (List V)
  | .error e => .error e
  | .ok (r, f) => .ok (vs ++ r, f)
theorem joinV_nil (r : ER (List V)) : r = joinV [] r := by cases r <;> rfl
theorem evs_bad {j : Nat} {vs : List V} {c : Int} (hj : j < l.length) (h : l[j].ev s f = .error c) : joinV vs (EX.evs (l.drop j) s f) = .error c := by
  rw [List.drop_eq_getElem_cons hj, EX.evs, h]; rfl
theorem evs_step {j : Nat} {vs : List V} {v : V} {f1 : Int} (hj : j < l.length) (h : l[j].ev s f = .ok (v, f1)) : joinV vs (EX.evs (l.drop j) s f) = joinV (vs ++ [v]) (EX.evs (l.drop (j + 1)) s f1) := by
  rw [List.drop_eq_getElem_cons hj, EX.evs, h]
  simp only []
  cases EX.evs (l.drop (j + 1)) s f1 with
  | error c => rfl
  | ok p => simp [joinV]
theorem evs_done {vs : List V} : joinV vs (EX.evs [] s f) = .ok (vs, f) := by rw [EX.evs]; simp [joinV]
theorem fillOne {e : ETy} {base z : List AV} (hz : z.length = e.sz) (hb : base.length = e.sz := by rfl) : fillA (fun i => some (i * e.sz, e.sz)) base [(0, z)] = some [z].flatten := by
  have h1 : splice base 0 z = z := splice_all (by rw [hz, hb])
  have h2 : Nat.ble e.sz e.sz = true := Nat.ble_eq_true_of_le (Nat.le_refl _)
  simp [fillA, hz, hb, h1, h2]
theorem allOne {e : ETy} {z : List AV} (hz : z.length = e.sz) : (([z] : List (List AV)).all fun x => Nat.beq x.length e.sz) = true := by simp [hz]
theorem css_snoc (vs : List V) (v : V) : V.css false vs ++ [v.cs false] = V.css false (vs ++ [v]) := by
  induction vs with
  | nil => rfl
  | cons x r ih => rw [List.cons_append, V.css, V.css, ← ih]; rfl
end
end Go.Proofs.YtjhonjdhanlbkaaGreat.J

