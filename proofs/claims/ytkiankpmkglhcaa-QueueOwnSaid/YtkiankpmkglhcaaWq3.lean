/- Walks: the queue and the page's queue. -/
import Derived.Test.YtkiankpmkglhcaaWq2
namespace Go.Proofs.Ytkiankpmkglhcaa.J
open Go Go.RowKit
set_option linter.unusedVariables false
set_option linter.unusedSimpArgs false
set_option maxRecDepth 10000
set_option maxHeartbeats 4000000

theorem fill_ev {c a0 a1 a2 a3 a4 a5 : AV} {z : List AV} (hz : z.length = 5) : fillA ([(0, 1), (1, 5)].toArray[·]?) [a0, a1, a2, a3, a4, a5] [(0, [c]), (1, z)] = some (c :: z) := by
  have h1 : splice [c, a1, a2, a3, a4, a5] 1 z = c :: z := by
    rw [splice_succ, splice_all (by rw [hz]; rfl)]
  simp [fillA, splice_zero, hz, h1]
theorem ev_take {l : List EvT} {j : Nat} (h : j < l.length) : EvT.css true (l.take j) ++ [EvT.cs true l[j]] = EvT.css true (l.take (j + 1)) := by rw [List.take_succ_eq_append_getElem h, EvT.css_append]; rfl
theorem fill_one {e : ETy} {base z : List AV} (hz : z.length = e.sz) (hb : base.length = e.sz := by rfl) : fillA (fun i => some (i * e.sz, e.sz)) base [(0, z)] = some [z].flatten := by
  have h1 : splice base 0 z = z := splice_all (by rw [hz, hb])
  have h2 : Nat.ble e.sz e.sz = true := Nat.ble_eq_true_of_le (Nat.le_refl _)
  simp [fillA, hz, hb, h1, h2]
theorem all_one {e : ETy} {z : List AV} (hz : z.length = e.sz) : (([z] : List (List AV)).all fun x => Nat.beq x.length e.sz) = true := by simp [hz]

theorem revents_own {fr c : Bool} {l : List EvT} (hl : EvT.wfs l) : AC Try.prog 91 [] [.sl fr c eEv (EvT.css fr l)] (RetR (CloneR eEv (EvT.css true l))) := by
  have hlen := hl.len
  have hl1 := hl.1
  refine AC.of_J Try.func91 rfl Try.ntmps91 rfl fun w0 A0 => ?_
  refine J.seq ?_
  refine J.region_lit ?_
  refine JL.q rfl rfl rfl (QW.assign .const) ?_
  refine JL.nil ?_
  refine thenQ.n ?_
  refine J.seq ?_
  refine J.region_lit ?_
  refine JL.q rfl rfl rfl (QW.assign .const) ?_
  refine JL.nil ?_
  refine thenQ.n ?_
  refine J.seq ?_
  refine J.seq ?_
  refine J.region_lit ?_
  refine JL.q rfl rfl rfl (QW.assign .const) ?_
  refine JL.nil ?_
  refine thenQ.n ?_
  refine J.block ?_
  refine J.reown (Reown.nilArrE eEv _) ?_
  refine J.loopK (ι := Nat × Value) [0, 2] (fun ⟨j, v⟩ => [(4, .c (.int .i64 (j : Int))), (3, .c v)]) (fun ⟨j, v⟩ oo => List.set oo 0 (.arr v eEv (EvT.css true (l.take j)))) (fun ⟨j, v⟩ => j ≤ l.length) (fun ⟨j, v⟩ => l.length - j) ⟨0, .slice none 0 0⟩ (Nat.zero_le _) (Wk.re (.cons rfl (.refl _) (.cons rfl (.refl _) (.cons rfl (.refl _) (.cons rfl (.refl _) .nil)))) (Reown.refl _) (fun _ h => by first | exact h | simp [h])) ?_
  intro ⟨j, v⟩ hj
  refine J.conv (by (try simp only [stepsO, List.map_cons, List.map_nil, valO, nthO, curO, mrg, List.reverse_cons, List.reverse_nil, List.nil_append, List.cons_append, List.append_nil, List.getElem?_cons_zero, List.getElem?_cons_succ, Option.map_some, Option.getD_some, List.set_cons_zero, List.set_cons_succ, AV.cellsOf, splice_zero, splice_succ, Nat.zero_add, Nat.reduceAdd]); rfl) ?_
  refine J.seq ?_
  refine J.seq ?_
  refine J.region_lit ?_
  refine JL.q rfl rfl rfl (QW.move (.tmp rfl)) ?_
  refine JL.q rfl rfl rfl (QW.move (.tmp rfl)) ?_
  refine JL.q rfl rfl rfl (by first | exact QW.len_sl sl56 (.tmp rfl) | exact QW.len_nil sl56 (.tmp rfl)) ?_
  refine JL.q rfl rfl rfl (QW.lss (.tmp rfl) (.tmp rfl)) ?_
  refine JL.nil ?_
  refine thenQ.n ?_
  refine J.cond (.tmp rfl) (fun c1 => ?_) (fun c1 => ?_)
  · skip
    have hlt : j < l.length := by simpa [EvT.css_length] using c1
    refine J.skip ?_
    refine thenQ.n ?_
    refine J.seq ?_
    refine J.block ?_
    refine J.region_tailK 14 mixed (by kernel_rfl) (by kernel_rfl) (by kernel_rfl) rfl ?_
    refine .cons [] rfl rfl rfl (.q rfl (QW.move (.tmp rfl))) ?_
    refine .cons [] rfl rfl rfl (.q rfl (QW.move (.tmp rfl))) ?_
    refine .cons [] rfl rfl rfl (.q rfl (QW.move (.tmp rfl))) ?_
    refine .cons [12, 13] rfl rfl rfl (.q rfl (QW.index_sl sl56 ty70 rfl (.tmp rfl) (.tmp rfl) (by first | rfl | omega | (simp; done)) (by exact EvT.css_getE _ hlt))) ?_
    refine .cons [14] rfl rfl rfl (.q rfl (QW.field_ref fo70_0 (.tmp rfl) rfl)) ?_
    refine .cons [15] rfl rfl rfl (.q rfl (QW.load_ref1 ty9 (.tmp rfl) rfl)) ?_
    refine .cons [] rfl rfl rfl (.q rfl (QW.move (.tmp rfl))) ?_
    refine .cons [] rfl rfl rfl (.q rfl (QW.move (.tmp rfl))) ?_
    refine .cons [17, 18] rfl rfl rfl (.q rfl (QW.index_sl sl56 ty70 rfl (.tmp rfl) (.tmp rfl) (by first | rfl | omega | (simp; done)) (by exact EvT.css_getE _ hlt))) ?_
    refine .cons [19] rfl rfl rfl (.q rfl (QW.field_ref fo70_1 (.tmp rfl) rfl)) ?_
    refine .cons [20] rfl rfl rfl (.q rfl (by first | exact QW.load_ref ty26 (.tmp rfl) rfl rfl | exact QW.load_ref ty26 (.tmp rfl) (take_at0 (V.cs_length _ _) rfl) (V.cs_length _ _))) ?_
    refine .cons [21] rfl rfl rfl (.q rfl (QW.call gofn79 (.cons (.tmp rfl) .nil) (rown_rd Vc.self (hl.2 _ (List.getElem_mem hlt)).arg))) ?_
    refine .cons [16, 22] rfl rfl rfl (.q rfl (QW.build (idx := [0, 1]) pl70 z70 rfl (.cons (.tmp rfl) (.cons (.tmp rfl) .nil)) rfl rfl rfl (by exact fill_ev (V.cs_length _ _)))) ?_
    refine .cons [23] rfl rfl rfl (.q rfl (QW.buildSlice (idx := [0]) (xs := [EvT.cs true l[j]]) sl56 el70 z70 rfl (.cons (.tmp rfl) .nil) rfl rfl rfl rfl rfl (by exact fill_one (EvT.cs_length _ _)) rfl (all_one (EvT.cs_length _ _)) rfl)) ?_
    refine .nil ?_
    refine JL.append 0 sl56 el70 rfl (.tmp rfl) rfl (srcA_sl sl56 (.tmp rfl)) (by rw [EvT.css_length, List.length_take]; simp; unfold reach at *; omega) rfl fun v25 => ?_
    refine JL.q rfl rfl rfl (QW.assign (.tmp rfl)) ?_
    refine JL.nil ?_
    refine blkQ.n ?_
    refine thenQ.n ?_
    refine J.region_lit ?_
    refine JL.q rfl rfl rfl (QW.move (.tmp rfl)) ?_
    refine JL.q rfl rfl rfl (QW.add (.tmp rfl) .const (by first | exact w64n (by first | rfl | omega | (simp; done)) (by omega) | exact w64 (by omega) | rfl)) ?_
    refine JL.q rfl rfl rfl (QW.assign (.tmp rfl)) ?_
    refine JL.nil ?_
    refine thenQ.n ?_
    exact ⟨⟨j + 1, v25⟩, hlt, by show l.length - (j + 1) < l.length - j; omega, Wk.re (.cons rfl (.refl _) (.cons rfl (.refl _) (.cons rfl (.refl _) (.cons rfl (.refl _) .nil)))) (Reown.ofEq (congrArg (fun z => [Own.arr v25 eEv z]) (ev_take hlt))) (fun _ h => by first | exact h | simp [h])⟩
  · skip
    have hge : l.length ≤ j := by simpa [EvT.css_length] using c1
    refine J.exit ?_
    refine thenQ.x ?_
    refine thenQ.x ?_
    refine blkQ.hit ?_
    refine thenQ.n ?_
    refine J.seq ?_
    refine J.isSlice 0 rfl fun hs1 => ?_
    refine J.region_lit ?_
    refine JL.q rfl rfl rfl (QW.move (.tmp rfl)) ?_
    refine JL.q rfl rfl rfl (QW.assign (.tmp rfl)) ?_
    refine JL.nil ?_
    refine thenQ.n ?_
    refine J.ret ?_
    obtain rfl : j = l.length := by omega
    rw [List.take_length]
    exact ⟨_, selP [.p] _, _, RetEv.one rfl (REv.tmp rfl (.refl _)), rfl, sel_perm [.p] _, ⟨_, rfl, _, rfl, hs1, rfl⟩⟩

theorem Fn.ofClone {P : Program} {f : FuncId} {xs : List AV} {e : ETy} {ys : List (List AV)} (hr : ys.length * e.bytes ≤ reach) (h : AC P f [] xs (RetR (CloneR e ys))) : Fn P f xs (.sl true false e ys) :=
  Fn.close h fun x o ⟨v, hx, _, ho⟩ => by
    subst hx ho
    exact ⟨[(v, .sl true false e ys)], fun w A hok hb p hp => Clos.arr hr w A (hok _ (by simp)) (fun b hb' => hb b (by simpa [fps_cons, fps_nil] using hb')) p hp, .fact (by simp) (.refl _)⟩
theorem revents_ok {fr c : Bool} {l : List EvT} (hl : EvT.wfs l) : Fn Try.prog 91 [.sl fr c eEv (EvT.css fr l)] (evsAV l) := .ofClone (by rw [EvT.css_length]; exact hl.1) (revents_own hl)

theorem cloneEv_ok {fr c : Bool} (xs : List (List AV)) (hr : xs.length * 96 ≤ reach) : AC Try.prog 123 [] [.sl fr c eEv xs] (RetR (CloneR eEv xs)) := by
  refine AC.of_J Try.func123 rfl Try.ntmps123 rfl fun w0 A0 => ?_
  refine J.seq ?_
  refine J.region_lit ?_
  refine JL.q rfl rfl rfl (QW.assign .const) ?_
  refine JL.nil ?_
  refine thenQ.n ?_
  refine J.seq ?_
  refine J.seq ?_
  refine J.region_lit ?_
  refine JL.q rfl rfl rfl (QW.move (.tmp rfl)) ?_
  refine JL.eqnil sl56 (.tmp rfl) .const rfl fun n4 hn4 => ?_
  refine JL.nil ?_
  refine thenQ.n ?_
  refine J.cond (.tmp rfl) (fun c1 => ?_) (fun c1 => ?_)
  · skip
    refine J.seq ?_
    refine J.reown (Reown.nilArrE eEv _) ?_
    refine J.region_lit ?_
    refine JL.q rfl rfl rfl (QW.assign .const) ?_
    refine JL.nil ?_
    refine thenQ.n ?_
    refine J.ret ?_
    refine thenQ.r ?_
    obtain rfl : xs = [] := hn4 c1
    exact ⟨_, selP [.p] _, _, RetEv.one rfl (REv.tmp rfl (.refl _)), rfl, sel_perm [.p] _, ⟨_, rfl, _, rfl, rfl, rfl⟩⟩
  · skip
    refine J.skip ?_
    refine thenQ.n ?_
    refine J.seq ?_
    refine J.region_lit ?_
    refine JL.buildSlice0 sl56 el70 rfl rfl fun v5 => ?_
    refine JL.q rfl rfl rfl (QW.move (.tmp rfl)) ?_
    refine JL.append 0 sl56 el70 rfl (.tmp rfl) rfl (srcA_sl sl56 (.tmp rfl)) (by simpa using hr) rfl fun v7 => ?_
    refine JL.isSlice 0 rfl fun hs1 => ?_
    refine JL.q rfl rfl rfl (QW.assign (.tmp rfl)) ?_
    refine JL.nil ?_
    refine thenQ.n ?_
    refine J.ret ?_
    exact ⟨_, selP [.p] _, _, RetEv.one rfl (REv.tmp rfl (.refl _)), rfl, sel_perm [.p] _, ⟨_, rfl, _, rfl, hs1, rfl⟩⟩

theorem ev_get {l : List EvT} {j : Nat} (fr : Bool) (h : j < l.length) : (EvT.css true (l.take j) ++ EvT.css fr (l.drop j))[j]? = some (EvT.cs fr l[j]) := by
  have hc : (EvT.css true (l.take j)).length = j := by rw [EvT.css_length, List.length_take]; omega
  rw [List.getElem?_append_right (by omega), hc, Nat.sub_self, List.drop_eq_getElem_cons h]; rfl
theorem ev_set {l : List EvT} {j : Nat} {fr : Bool} (h : j < l.length) : (EvT.css true (l.take j) ++ EvT.css fr (l.drop j)).set j (EvT.cs true l[j]) = EvT.css true (l.take (j + 1)) ++ EvT.css fr (l.drop (j + 1)) := by
  have hc : (EvT.css true (l.take j)).length = j := by rw [EvT.css_length, List.length_take]; omega
  rw [List.set_append_right _ _ (by omega), hc, Nat.sub_self, List.drop_eq_getElem_cons h, List.take_succ_eq_append_getElem h, EvT.css_append]
  simp only [EvT.css, List.map_cons, List.map_nil, List.set_cons_zero, List.append_assoc, List.cons_append, List.nil_append]
theorem ev_splice {fr : Bool} {e : EvT} : splice (e.cs fr) 1 (e.arg.cs true) = e.cs true := by
  unfold EvT.cs
  rw [splice_succ, splice_all (by rw [V.cs_length, V.cs_length])]

theorem qclone_own {fr c : Bool} {l : List EvT} (hl : EvT.wfs l) : AC Try.prog 85 [] [.sl fr c eEv (EvT.css fr l)] (RetR (CloneR eEv (EvT.css true l))) := by
  have hlen := hl.len
  have hl1 := hl.1
  refine AC.of_J Try.func85 rfl Try.ntmps85 rfl fun w0 A0 => ?_
  refine J.seq ?_
  refine J.region_lit ?_
  refine JL.q rfl rfl rfl (QW.assign .const) ?_
  refine JL.nil ?_
  refine thenQ.n ?_
  refine J.seq ?_
  refine J.region_lit ?_
  refine JL.q rfl rfl rfl (QW.move (.tmp rfl)) ?_
  refine JL.callRF [] gofn123 rfl Lent.nil (fun _ => (.cons (.tmp rfl) .nil)) (cloneEv_ok _ (by rw [EvT.css_length]; exact hl1)) (.inl rfl) fun x6 o6 h6 => ?_
  obtain ⟨v6, rfl, hs1, rfl⟩ := h6
  refine JL.q rfl rfl rfl (QW.assign (.tmp rfl)) ?_
  refine JL.nil ?_
  refine thenQ.n ?_
  refine J.seq ?_
  refine J.seq ?_
  refine J.region_lit ?_
  refine JL.q rfl rfl rfl (QW.move (.tmp rfl)) ?_
  refine JL.q rfl rfl rfl (QW.len_arr 0 sl56 (.tmp rfl) rfl) ?_
  refine JL.q rfl rfl rfl (QW.move .const) ?_
  refine JL.nil ?_
  refine thenQ.n ?_
  refine J.block ?_
  refine J.loopK (ι := Nat) [0, 2, 7, 8] (fun j => [(9, .c (.int .i64 (j : Int)))]) (fun j oo => List.set oo 0 (.arr v6 eEv (EvT.css true (l.take j) ++ EvT.css fr (l.drop j)))) (fun j => j ≤ l.length) (fun j => l.length - j) 0 (Nat.zero_le _) (Wk.re (.cons rfl (.refl _) (.cons rfl (.refl _) (.cons rfl (.refl _) (.cons rfl (.refl _) (.cons rfl (.refl _) .nil))))) (Reown.refl _) (fun _ h => by first | exact h | simp [h])) ?_
  intro j hj
  refine J.conv (by (try simp only [stepsO, List.map_cons, List.map_nil, valO, nthO, curO, mrg, List.reverse_cons, List.reverse_nil, List.nil_append, List.cons_append, List.append_nil, List.getElem?_cons_zero, List.getElem?_cons_succ, Option.map_some, Option.getD_some, List.set_cons_zero, List.set_cons_succ, AV.cellsOf, splice_zero, splice_succ, Nat.zero_add, Nat.reduceAdd]); rfl) ?_
  refine J.seq ?_
  refine J.region_lit ?_
  refine JL.q rfl rfl rfl (QW.lss (.tmp rfl) (.tmp rfl)) ?_
  refine JL.nil ?_
  refine thenQ.n ?_
  refine J.seq ?_
  refine J.cond (.tmp rfl) (fun c1 => ?_) (fun c1 => ?_)
  · skip
    have hlt : j < l.length := by simpa [EvT.css_length] using c1
    refine J.skip ?_
    refine thenQ.n ?_
    refine J.seq ?_
    refine J.block ?_
    refine J.seq ?_
    refine J.region_lit ?_
    refine JL.q rfl rfl rfl (QW.move (.tmp rfl)) ?_
    refine JL.q rfl rfl rfl (QW.index_arr 0 sl56 ty70 rfl (.tmp rfl) rfl (.tmp rfl) (by first | rfl | omega | (simp; done)) (by simp [EvT.css_length]; omega) rfl) ?_
    refine JL.q rfl rfl rfl (by first | exact QW.load_gp 0 ty70 (.tmp rfl) rfl (by exact ev_get _ hlt) rfl rfl rfl | exact QW.load_gp 0 ty70 (.tmp rfl) rfl (by exact ev_get _ hlt) rfl (take_full (EvT.cs_length _ _)) (EvT.cs_length _ _)) ?_
    refine JL.alloc z70 rfl rfl fun b4 => ?_
    refine JL.q rfl rfl rfl (QW.assign (.tmp rfl)) ?_
    first | refine JL.store_boxF 0 ty70 (.tmp rfl) rfl (.tmp rfl) (by first | rfl | assumption) (rfl) (rfl) rfl ?_ | refine JL.store_boxF 0 ty70 (.tmp rfl) rfl (.tmp rfl) (by first | rfl | assumption) (rfl) (EvT.cs_length _ _) rfl ?_ | refine JL.store_boxF 0 ty70 (.tmp rfl) rfl (.tmp rfl) (by first | rfl | assumption) (EvT.cs_length _ _) (rfl) rfl ?_ | refine JL.store_boxF 0 ty70 (.tmp rfl) rfl (.tmp rfl) (by first | rfl | assumption) (EvT.cs_length _ _) (EvT.cs_length _ _) rfl ?_ | refine JL.store_box 0 ty70 (.tmp rfl) rfl (.tmp rfl) (by first | rfl | assumption) rfl rfl rfl rfl ?_ | refine JL.store_box 0 ty70 (.tmp rfl) rfl (.tmp rfl) (by first | rfl | assumption) (EvT.cs_length _ _) rfl rfl rfl ?_
    refine JL.nil ?_
    refine thenQ.n ?_
    refine J.region_lit ?_
    refine JL.q rfl rfl rfl (QW.move (.tmp rfl)) ?_
    refine JL.q rfl rfl rfl (QW.move (.tmp rfl)) ?_
    refine JL.q rfl rfl rfl (QW.field_ptr fo70_1 (.tmp rfl) rfl) ?_
    refine JL.q rfl rfl rfl (by first | exact QW.load_box 0 ty26 (.tmp rfl) rfl rfl rfl | exact QW.load_box 0 ty26 (.tmp rfl) rfl (take_at (V.cs_length _ _) rfl) (V.cs_length _ _)) ?_
    refine JL.q rfl rfl rfl (QW.call gofn77 (.cons (.tmp rfl) .nil) (clone_rd Vc.self (hl.2 _ (List.getElem_mem hlt)).arg)) ?_
    refine JL.q rfl rfl rfl (QW.index_arr 1 sl56 ty70 rfl (.tmp rfl) rfl (.tmp rfl) (by first | rfl | omega | (simp; done)) (by simp [EvT.css_length]; omega) rfl) ?_
    refine JL.q rfl rfl rfl (QW.field_gp fo70_1 (.tmp rfl) rfl) ?_
    refine JL.store_gp (o := 1) 1 ty26 (.tmp rfl) rfl (ev_get fr hlt) rfl (.tmp rfl) rfl (V.cs_length _ _) rfl ((congrArg (List.set _ _) ev_splice).trans (ev_set hlt)) rfl ?_
    refine JL.nil ?_
    refine blkQ.n ?_
    refine thenQ.n ?_
    refine J.region_lit ?_
    refine JL.q rfl rfl rfl (QW.add (.tmp rfl) .const (by first | exact w64n (by first | rfl | omega | (simp; done)) (by omega) | exact w64 (by omega) | rfl)) ?_
    refine JL.q rfl rfl rfl (QW.move (.tmp rfl)) ?_
    refine JL.nil ?_
    refine thenQ.n ?_
    exact ⟨j + 1, hlt, by omega, Wk.re (.cons rfl (.refl _) (.cons rfl (.refl _) (.cons rfl (.refl _) (.cons rfl (.refl _) (.cons rfl (.refl _) .nil))))) (Reown.dropN 1 _ rfl) (fun _ h => by first | exact h | simp [h])⟩
  · skip
    have hge : l.length ≤ j := by simpa [EvT.css_length] using c1
    refine J.exit ?_
    refine thenQ.x ?_
    refine thenQ.x ?_
    refine blkQ.hit ?_
    refine thenQ.n ?_
    refine J.seq ?_
    refine J.region_lit ?_
    refine JL.q rfl rfl rfl (QW.move (.tmp rfl)) ?_
    refine JL.q rfl rfl rfl (QW.assign (.tmp rfl)) ?_
    refine JL.nil ?_
    refine thenQ.n ?_
    refine J.ret ?_
    obtain rfl : j = l.length := by omega
    rw [List.take_length, List.drop_length]
    exact ⟨_, selP [.p] _, _, RetEv.one rfl (REv.tmp rfl (.refl _)), rfl, sel_perm [.p] _, ⟨_, rfl, _, rfl, hs1, by simp [EvT.css]; rfl⟩⟩

theorem qclone_ok {fr c : Bool} {l : List EvT} (hl : EvT.wfs l) : Fn Try.prog 85 [.sl fr c eEv (EvT.css fr l)] (evsAV l) := .ofClone (by rw [EvT.css_length]; exact hl.1) (qclone_own hl)

theorem clipEv_ok {fr c : Bool} (xs : List (List AV)) : Fn Try.prog 86 [.sl fr c eEv xs] (.sl fr true eEv xs) := by
  refine AC.of_J Try.func86 rfl Try.ntmps86 rfl fun w0 A0 => ?_
  refine J.seq ?_
  refine J.region_lit ?_
  refine JL.q rfl rfl rfl (QW.assign .const) ?_
  refine JL.nil ?_
  refine thenQ.n ?_
  refine J.seq ?_
  refine J.region_lit ?_
  refine JL.q rfl rfl rfl (QW.move (.tmp rfl)) ?_
  refine JL.q rfl rfl rfl (QW.move (.tmp rfl)) ?_
  refine JL.q rfl rfl rfl (by first | exact QW.len_sl sl56 (.tmp rfl) | exact QW.len_nil sl56 (.tmp rfl)) ?_
  refine JL.q rfl rfl rfl (QW.move (.tmp rfl)) ?_
  refine JL.q rfl rfl rfl (by first | exact QW.len_sl sl56 (.tmp rfl) | exact QW.len_nil sl56 (.tmp rfl)) ?_
  refine JL.q rfl rfl rfl (QW.slice3_H sl56 ty70 rfl (.tmp rfl) (.tmp rfl) (.tmp rfl) (by first | rfl | omega | (simp; done)) (by first | rfl | omega | (simp; done)) (Nat.le_refl _)) ?_
  refine JL.q rfl rfl rfl (QW.assign (.tmp rfl)) ?_
  refine JL.nil ?_
  refine thenQ.n ?_
  refine J.ret ?_
  exact ⟨_, selP [] _, _, RetEv.one rfl (REv.tmp rfl (.refl _)), rfl, sel_perm [] _, ⟨by rw [List.take_length], rfl⟩⟩

theorem split_ok {fr c : Bool} {l : List EvT} {k : Nat} (hk : k ≤ l.length) : Fn Try.prog 87 [.sl fr c eEv (EvT.css fr l), .c (.int .i64 (k : Int))] (.tup [.sl fr false eEv (EvT.css fr (l.take k)), .sl fr c eEv (EvT.css fr (l.drop k))]) := by
  refine AC.of_J Try.func87 rfl Try.ntmps87 rfl fun w0 A0 => ?_
  refine J.seq ?_
  refine J.region_lit ?_
  refine JL.q rfl rfl rfl (QW.assign .const) ?_
  refine JL.q rfl rfl rfl (QW.assign .const) ?_
  refine JL.nil ?_
  refine thenQ.n ?_
  refine J.seq ?_
  refine J.region_tailK 7 mixed (by kernel_rfl) (by kernel_rfl) (by kernel_rfl) rfl ?_
  refine .cons [] rfl rfl rfl (.q rfl (QW.move (.tmp rfl))) ?_
  refine .cons [] rfl rfl rfl (.q rfl (QW.move (.tmp rfl))) ?_
  refine .cons [6, 7] rfl rfl rfl (.q rfl (QW.slice_H sl56 ty70 rfl (.tmp rfl) (.tmp rfl) (by first | rfl | omega | (simp; done)) (by rw [EvT.css_length]; exact hk))) ?_
  refine .cons [] rfl rfl rfl (.q rfl (QW.move (.tmp rfl))) ?_
  refine .cons [] rfl rfl rfl (.q rfl (QW.move (.tmp rfl))) ?_
  refine .cons [9, 10] rfl rfl rfl (.q rfl (QW.slice_L sl56 ty70 rfl (.tmp rfl) (.tmp rfl) (by first | rfl | omega | (simp; done)) (by rw [EvT.css_length]; exact hk))) ?_
  refine .cons [8] rfl rfl rfl (.q rfl (QW.assign (.tmp rfl))) ?_
  refine .nil ?_
  refine JL.q rfl rfl rfl (QW.assign (.tmp rfl)) ?_
  refine JL.nil ?_
  refine thenQ.n ?_
  refine J.ret ?_
  exact ⟨_, selP [] _, _, RetEv.two rfl (REv.tmp rfl (.refl _)) (REv.tmp rfl (.refl _)), rfl, sel_perm [] _, ⟨by rw [EvT.css_take, EvT.css_drop], rfl⟩⟩

theorem qnew_ok (n : Int) : Fn Try.prog 37 [.c (.int .i64 n)] (.tup [if n < 1 ∨ 64 < n then QT.nil.av else (QT.mk n 0 []).av, .c (.int .i64 (if n < 1 ∨ 64 < n then 4 else 0))]) := by
  refine AC.of_J Try.func37 rfl Try.ntmps37 rfl fun w0 A0 => ?_
  refine J.seq ?_
  refine J.region_lit ?_
  refine JL.alloc z58 rfl rfl fun b2 => ?_
  refine JL.q rfl rfl rfl (QW.assign .const) ?_
  refine JL.nil ?_
  refine thenQ.n ?_
  refine J.seq ?_
  refine J.seq ?_
  refine J.region_lit ?_
  refine JL.q rfl rfl rfl (QW.move (.tmp rfl)) ?_
  refine JL.q rfl rfl rfl (QW.lss (.tmp rfl) .const) ?_
  refine JL.q rfl rfl rfl (QW.move (.tmp rfl)) ?_
  refine JL.g rfl rfl rfl rfl rfl (fun hg => (QW.move (.tmp rfl))) ?_
  refine JL.g rfl rfl rfl rfl rfl (fun hg => (QW.gtr (.when rfl hg) .const)) ?_
  refine JL.q rfl rfl rfl (QW.pick_or (.tmp rfl) (.tmp rfl)) ?_
  refine JL.nil ?_
  refine thenQ.n ?_
  refine J.cond (.tmp rfl) (fun c1 => ?_) (fun c1 => ?_)
  · skip
    simp at c1
    refine J.seq ?_
    refine J.region_lit ?_
    refine JL.q rfl rfl rfl (QW.build (idx := []) pl58 z58 rfl .nil rfl rfl rfl rfl) ?_
    first | refine JL.store_boxF 0 ty58 (.tmp rfl) rfl (.tmp rfl) (by first | rfl | assumption) (rfl) (rfl) rfl ?_ | refine JL.store_box 0 ty58 (.tmp rfl) rfl (.tmp rfl) (by first | rfl | assumption) rfl rfl rfl rfl ?_
    refine JL.q rfl rfl rfl (QW.assign .const) ?_
    refine JL.nil ?_
    refine thenQ.n ?_
    refine J.ret ?_
    refine thenQ.r ?_
    exact ⟨_, selP [.k] _, _, RetEv.two rfl (REv.cell 0 ty58 rfl rfl rfl rfl (.aggL (.cons (.refl _) (.cons (.refl _) (.cons (.nil _ _ _) .nil))))) (REv.tmp rfl (.refl _)), rfl, sel_perm [.k] _, ⟨by rw [if_pos c1, if_pos c1]; rfl, rfl⟩⟩
  · skip
    simp at c1
    refine J.skip ?_
    refine thenQ.n ?_
    refine J.seq ?_
    refine J.region_lit ?_
    refine JL.q rfl rfl rfl (QW.move (.tmp rfl)) ?_
    refine JL.q rfl rfl rfl (QW.build (idx := [0]) pl58 z58 rfl (.cons (.tmp rfl) .nil) rfl rfl rfl rfl) ?_
    first | refine JL.store_boxF 0 ty58 (.tmp rfl) rfl (.tmp rfl) (by first | rfl | assumption) (rfl) (rfl) rfl ?_ | refine JL.store_box 0 ty58 (.tmp rfl) rfl (.tmp rfl) (by first | rfl | assumption) rfl rfl rfl rfl ?_
    refine JL.q rfl rfl rfl (QW.assign .const) ?_
    refine JL.nil ?_
    refine thenQ.n ?_
    refine J.ret ?_
    exact ⟨_, selP [.k] _, _, RetEv.two rfl (REv.cell 0 ty58 rfl rfl rfl rfl (.aggL (.cons (.refl _) (.cons (.refl _) (.cons (.nil _ _ _) .nil))))) (REv.tmp rfl (.refl _)), rfl, sel_perm [.k] _, ⟨by rw [if_neg (by omega), if_neg (by omega)]; rfl, rfl⟩⟩

theorem rqnew_ok (n : Int) : Fn Try.prog 38 [.c (.int .i64 n)] (.tup [if n < 1 ∨ 64 < n then QT.nil.av else (QT.mk n 0 []).av, .c (.int .i64 (if n < 1 ∨ 64 < n then 4 else 0))]) := by
  refine AC.of_J Try.func38 rfl Try.ntmps38 rfl fun w0 A0 => ?_
  refine J.seq ?_
  refine J.region_lit ?_
  refine JL.alloc z61 rfl rfl fun b2 => ?_
  refine JL.q rfl rfl rfl (QW.assign .const) ?_
  refine JL.nil ?_
  refine thenQ.n ?_
  refine J.seq ?_
  refine J.seq ?_
  refine J.region_lit ?_
  refine JL.q rfl rfl rfl (QW.move (.tmp rfl)) ?_
  refine JL.q rfl rfl rfl (QW.lss (.tmp rfl) .const) ?_
  refine JL.q rfl rfl rfl (QW.move (.tmp rfl)) ?_
  refine JL.g rfl rfl rfl rfl rfl (fun hg => (QW.move (.tmp rfl))) ?_
  refine JL.g rfl rfl rfl rfl rfl (fun hg => (QW.gtr (.when rfl hg) .const)) ?_
  refine JL.q rfl rfl rfl (QW.pick_or (.tmp rfl) (.tmp rfl)) ?_
  refine JL.nil ?_
  refine thenQ.n ?_
  refine J.cond (.tmp rfl) (fun c1 => ?_) (fun c1 => ?_)
  · skip
    simp at c1
    refine J.seq ?_
    refine J.region_lit ?_
    refine JL.q rfl rfl rfl (QW.build (idx := []) pl61 z61 rfl .nil rfl rfl rfl rfl) ?_
    first | refine JL.store_boxF 0 ty61 (.tmp rfl) rfl (.tmp rfl) (by first | rfl | assumption) (rfl) (rfl) rfl ?_ | refine JL.store_box 0 ty61 (.tmp rfl) rfl (.tmp rfl) (by first | rfl | assumption) rfl rfl rfl rfl ?_
    refine JL.q rfl rfl rfl (QW.assign .const) ?_
    refine JL.nil ?_
    refine thenQ.n ?_
    refine J.ret ?_
    refine thenQ.r ?_
    exact ⟨_, selP [.k] _, _, RetEv.two rfl (REv.cell 0 ty61 rfl rfl rfl rfl (.aggL (.cons (.refl _) (.cons (.refl _) (.cons (.nil _ _ _) .nil))))) (REv.tmp rfl (.refl _)), rfl, sel_perm [.k] _, ⟨by rw [if_pos c1, if_pos c1]; rfl, rfl⟩⟩
  · skip
    simp at c1
    refine J.skip ?_
    refine thenQ.n ?_
    refine J.seq ?_
    refine J.region_lit ?_
    refine JL.q rfl rfl rfl (QW.move (.tmp rfl)) ?_
    refine JL.q rfl rfl rfl (QW.build (idx := [0]) pl61 z61 rfl (.cons (.tmp rfl) .nil) rfl rfl rfl rfl) ?_
    first | refine JL.store_boxF 0 ty61 (.tmp rfl) rfl (.tmp rfl) (by first | rfl | assumption) (rfl) (rfl) rfl ?_ | refine JL.store_box 0 ty61 (.tmp rfl) rfl (.tmp rfl) (by first | rfl | assumption) rfl rfl rfl rfl ?_
    refine JL.q rfl rfl rfl (QW.assign .const) ?_
    refine JL.nil ?_
    refine thenQ.n ?_
    refine J.ret ?_
    exact ⟨_, selP [.k] _, _, RetEv.two rfl (REv.cell 0 ty61 rfl rfl rfl rfl (.aggL (.cons (.refl _) (.cons (.refl _) (.cons (.nil _ _ _) .nil))))) (REv.tmp rfl (.refl _)), rfl, sel_perm [.k] _, ⟨by rw [if_neg (by omega), if_neg (by omega)]; rfl, rfl⟩⟩

def pushAV (q : QT) (e : EvT) : AV := .tup [(q.push e).1.av, .c (.int .i64 (q.push e).2.1), .c (.int .i64 (q.push e).2.2)]
def takeAV (q : QT) (n : Int) : AV := .tup [(q.take n).1.av, evsAV (q.take n).2.1, .c (.int .i64 (q.take n).2.2.1), .c (.int .i64 (q.take n).2.2.2)]
theorem pushAV_of {q q' : QT} {e : EvT} {n f : Int} (h : q.push e = (q', n, f)) : pushAV q e = .tup [q'.av, .c (.int .i64 n), .c (.int .i64 f)] := by simp [pushAV, h]
theorem takeAV_of {q q' : QT} {n m f : Int} {l : List EvT} (h : q.take n = (q', l, m, f)) : takeAV q n = .tup [q'.av, evsAV l, .c (.int .i64 m), .c (.int .i64 f)] := by simp [takeAV, h]
theorem QT.err_ok {q : QT} : q.err = 0 ↔ q.ok = true := by unfold QT.err; cases q.ok <;> simp
theorem QT.err_no {q : QT} (h : ¬ q.err = 0) : q.ok = false ∧ q.err = 9 := by unfold QT.err at *; cases hq : q.ok <;> simp_all
theorem QT.ok_inv {q : QT} (h : q.ok = true) : 1 ≤ q.limit ∧ q.limit ≤ 64 ∧ (q.events.length : Int) ≤ q.limit ∧ (q.events.length : Int) ≤ q.last ∧ q.last ≤ 1099511627776 ∧ q.events.all evOk = true := by
  unfold QT.ok at h; simp only [Bool.and_eq_true, decide_eq_true_eq] at h
  obtain ⟨⟨⟨⟨⟨h1, h2⟩, h3⟩, h4⟩, h5⟩, h6⟩ := h
  exact ⟨h1, h2, h3, h4, h5, h6⟩
theorem EvT.wfs.snoc {l : List EvT} {e : EvT} (h : EvT.wfs l) (he : e.wf) (hl : l.length ≤ 64) : EvT.wfs (l ++ [e]) := ⟨by simp; unfold reach; omega, fun x hx => by
  rcases List.mem_append.1 hx with hx | hx
  · exact h.2 x hx
  · simp only [List.mem_singleton] at hx; subst hx; exact he⟩
theorem css_one (fr : Bool) (e : EvT) : EvT.css fr [e] = [e.cs fr] := rfl

end Go.Proofs.Ytkiankpmkglhcaa.J
