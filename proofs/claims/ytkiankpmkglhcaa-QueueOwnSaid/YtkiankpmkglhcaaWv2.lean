/- Walks: the page's own part of a value; both walks over a value. -/
import Derived.Test.YtkiankpmkglhcaaWv1
namespace Go.Proofs.Ytkiankpmkglhcaa.J
open Go Go.RowKit
set_option linter.unusedVariables false
set_option linter.unusedSimpArgs false
set_option maxRecDepth 10000
set_option maxHeartbeats 4000000

theorem part5 (b : Nat) (t : Str) (ks : List Str) (is : List V) : partOk (.mk 5 b t ks is) = (b == 0 && t == [] && decide (is.length ≤ 32) && ks.length == is.length && keysOk ks) := by simp [partOk]

theorem gtr_less (a b : List UInt8) : (!(Op.bytesLess a b || a == b)) = Op.bytesLess b a := by rw [bytesLess_tri]; simp

theorem rpart_ok {fr : Bool} {v : V} {ys : List AV} (hv : Vc fr v ys) (hw : v.wf) : Fn Try.prog 106 [.agg ys] (.c (.bool (partOk v))) := by
  obtain ⟨k, b, t, ks, is⟩ := v
  subst hv
  obtain ⟨-, hb64, -, hk16, -, -, -⟩ := hw.inv
  have hk64 : ks.length ≤ 9223372036854775806 := by unfold reach at hk16; omega
  refine AC.of_J Try.func106 rfl Try.ntmps106 rfl fun w0 A0 => ?_
  refine J.seq ?_
  refine J.region_lit ?_
  refine JL.box_agg (.tmp rfl) rfl fun b1 => ?_
  refine JL.q rfl rfl rfl (QW.assign .const) ?_
  refine JL.nil ?_
  refine thenQ.n ?_
  refine J.seq ?_
  refine J.region_tailK 17 mixed (by kernel_rfl) (by kernel_rfl) (by kernel_rfl) rfl ?_
  refine .cons [] rfl rfl rfl (.q rfl (QW.field_ptr fo26_1 (.tmp rfl) rfl)) ?_
  refine .cons [9] rfl rfl rfl (.q rfl (QW.load_box1 0 ty22 (.tmp rfl) rfl rfl)) ?_
  refine .cons [10] rfl rfl rfl (.q rfl (QW.eql (.tmp rfl) .const)) ?_
  refine .cons [] rfl rfl rfl (.q rfl (QW.field_ptr fo26_2 (.tmp rfl) rfl)) ?_
  refine .cons [12] rfl rfl rfl (.q rfl (QW.load_box1 0 ty9 (.tmp rfl) rfl rfl)) ?_
  refine .cons [13] rfl rfl rfl (.q rfl (QW.eql_s (.tmp rfl) .const)) ?_
  refine .cons [] rfl rfl rfl (.q rfl (QW.field_ptr fo26_3 (.tmp rfl) rfl)) ?_
  refine .cons [15] rfl rfl rfl (.q rfl (QW.load_box1 0 ty23 (.tmp rfl) rfl rfl)) ?_
  refine .cons [16] rfl rfl rfl (.q rfl (by first | exact QW.len_sl sl23 (.tmp rfl) | exact QW.len_nil sl23 (.tmp rfl))) ?_
  refine .cons [17] rfl rfl rfl (.q rfl (QW.eql (.tmp rfl) .const)) ?_
  refine .cons [] rfl rfl rfl (.q rfl (QW.field_ptr fo26_4 (.tmp rfl) rfl)) ?_
  refine .cons [19] rfl rfl rfl (.q rfl (QW.load_box1 0 ty24 (.tmp rfl) rfl rfl)) ?_
  refine .cons [20] rfl rfl rfl (.q rfl (by first | exact QW.len_sl sl24 (.tmp rfl) | exact QW.len_nil sl24 (.tmp rfl))) ?_
  refine .cons [21] rfl rfl rfl (.q rfl (QW.eql (.tmp rfl) .const)) ?_
  refine .cons [11] rfl rfl rfl (.q rfl (QW.assign (.tmp rfl))) ?_
  refine .cons [14] rfl rfl rfl (.q rfl (QW.assign (.tmp rfl))) ?_
  refine .cons [18] rfl rfl rfl (.q rfl (QW.assign (.tmp rfl))) ?_
  refine .nil ?_
  refine JL.q rfl rfl rfl (QW.assign (.tmp rfl)) ?_
  refine JL.nil ?_
  refine thenQ.n ?_
  refine J.seq ?_
  refine J.seq ?_
  refine J.region_lit ?_
  refine JL.q rfl rfl rfl (QW.field_ptr fo26_0 (.tmp rfl) rfl) ?_
  refine JL.q rfl rfl rfl (QW.load_box1 0 ty3 (.tmp rfl) rfl rfl) ?_
  refine JL.nil ?_
  refine thenQ.n ?_
  refine J.block ?_
  refine J.seq ?_
  refine J.region_lit ?_
  refine JL.q rfl rfl rfl (QW.eql (.tmp rfl) .const) ?_
  refine JL.q rfl rfl rfl (QW.assign (.tmp rfl)) ?_
  refine JL.nil ?_
  refine thenQ.n ?_
  refine J.cond (.tmp rfl) (fun c1 => ?_) (fun c1 => ?_)
  · skip
    refine J.seq ?_
    refine J.region_lit ?_
    refine JL.q rfl rfl rfl (QW.move (.tmp rfl)) ?_
    refine JL.q rfl rfl rfl (QW.move (.tmp rfl)) ?_
    refine JL.g rfl rfl rfl rfl rfl (fun hg => (QW.move (.tmp rfl))) ?_
    refine JL.q rfl rfl rfl (QW.pick_and (.tmp rfl) (.tmp rfl)) ?_
    refine JL.q rfl rfl rfl (QW.move (.tmp rfl)) ?_
    refine JL.g rfl rfl rfl rfl rfl (fun hg => (QW.move (.tmp rfl))) ?_
    refine JL.q rfl rfl rfl (QW.pick_and (.tmp rfl) (.tmp rfl)) ?_
    refine JL.q rfl rfl rfl (QW.move (.tmp rfl)) ?_
    refine JL.g rfl rfl rfl rfl rfl (fun hg => (QW.move (.tmp rfl))) ?_
    refine JL.q rfl rfl rfl (QW.pick_and (.tmp rfl) (.tmp rfl)) ?_
    refine JL.q rfl rfl rfl (QW.assign (.tmp rfl)) ?_
    refine JL.nil ?_
    refine thenQ.n ?_
    refine J.ret ?_
    refine blkQ.r ?_
    refine thenQ.r ?_
    exact ⟨_, selP [.k] _, _, RetEv.one rfl (REv.tmp rfl (.refl _)), rfl, sel_perm [.k] _, ⟨ret_b (by simp [partOk, V.css_length, keysAV_length] at *; grind), rfl⟩⟩
  · skip
    refine J.seq ?_
    refine J.region_lit ?_
    refine JL.q rfl rfl rfl (QW.eql (.tmp rfl) .const) ?_
    refine JL.q rfl rfl rfl (QW.assign (.tmp rfl)) ?_
    refine JL.nil ?_
    refine thenQ.n ?_
    refine J.cond (.tmp rfl) (fun c2 => ?_) (fun c2 => ?_)
    · skip
      refine J.seq ?_
      refine J.region_lit ?_
      refine JL.q rfl rfl rfl (QW.field_ptr fo26_1 (.tmp rfl) rfl) ?_
      refine JL.q rfl rfl rfl (QW.load_box1 0 ty22 (.tmp rfl) rfl rfl) ?_
      refine JL.q rfl rfl rfl (QW.leq (.tmp rfl) .const) ?_
      refine JL.q rfl rfl rfl (QW.move (.tmp rfl)) ?_
      refine JL.g rfl rfl rfl rfl rfl (fun hg => (QW.move (.tmp rfl))) ?_
      refine JL.q rfl rfl rfl (QW.pick_and (.tmp rfl) (.tmp rfl)) ?_
      refine JL.q rfl rfl rfl (QW.move (.tmp rfl)) ?_
      refine JL.g rfl rfl rfl rfl rfl (fun hg => (QW.move (.tmp rfl))) ?_
      refine JL.q rfl rfl rfl (QW.pick_and (.tmp rfl) (.tmp rfl)) ?_
      refine JL.q rfl rfl rfl (QW.move (.tmp rfl)) ?_
      refine JL.g rfl rfl rfl rfl rfl (fun hg => (QW.move (.tmp rfl))) ?_
      refine JL.q rfl rfl rfl (QW.pick_and (.tmp rfl) (.tmp rfl)) ?_
      refine JL.q rfl rfl rfl (QW.assign (.tmp rfl)) ?_
      refine JL.nil ?_
      refine thenQ.n ?_
      refine J.ret ?_
      refine blkQ.r ?_
      refine thenQ.r ?_
      exact ⟨_, selP [.k] _, _, RetEv.one rfl (REv.tmp rfl (.refl _)), rfl, sel_perm [.k] _, ⟨ret_b (by simp [partOk, V.css_length, keysAV_length] at *; grind), rfl⟩⟩
    · skip
      refine J.seq ?_
      refine J.region_lit ?_
      refine JL.q rfl rfl rfl (QW.eql (.tmp rfl) .const) ?_
      refine JL.q rfl rfl rfl (QW.assign (.tmp rfl)) ?_
      refine JL.nil ?_
      refine thenQ.n ?_
      refine J.cond (.tmp rfl) (fun c3 => ?_) (fun c3 => ?_)
      · skip
        refine J.seq ?_
        refine J.region_tailK 5 mixed (by kernel_rfl) (by kernel_rfl) (by kernel_rfl) rfl ?_
        refine .cons [] rfl rfl rfl (.q rfl (QW.field_ptr fo26_1 (.tmp rfl) rfl)) ?_
        refine .cons [53] rfl rfl rfl (.q rfl (QW.load_box1 0 ty22 (.tmp rfl) rfl rfl)) ?_
        refine .cons [54] rfl rfl rfl (.q rfl (QW.call gofn130 (.cons (.tmp rfl) .nil) (rcanon_ok _ (by assumption)))) ?_
        refine .cons [] rfl rfl rfl (.q rfl (QW.field_ptr fo26_1 (.tmp rfl) rfl)) ?_
        refine .cons [56] rfl rfl rfl (.q rfl (QW.load_box1 0 ty22 (.tmp rfl) rfl rfl)) ?_
        refine .nil ?_
        refine JL.q rfl rfl rfl (QW.eql (.tmp rfl) (.tmp rfl)) ?_
        refine JL.q rfl rfl rfl (QW.move (.tmp rfl)) ?_
        refine JL.g rfl rfl rfl rfl rfl (fun hg => (QW.move (.tmp rfl))) ?_
        refine JL.q rfl rfl rfl (QW.pick_and (.tmp rfl) (.tmp rfl)) ?_
        refine JL.q rfl rfl rfl (QW.move (.tmp rfl)) ?_
        refine JL.g rfl rfl rfl rfl rfl (fun hg => (QW.move (.tmp rfl))) ?_
        refine JL.q rfl rfl rfl (QW.pick_and (.tmp rfl) (.tmp rfl)) ?_
        refine JL.q rfl rfl rfl (QW.move (.tmp rfl)) ?_
        refine JL.g rfl rfl rfl rfl rfl (fun hg => (QW.move (.tmp rfl))) ?_
        refine JL.q rfl rfl rfl (QW.pick_and (.tmp rfl) (.tmp rfl)) ?_
        refine JL.q rfl rfl rfl (QW.assign (.tmp rfl)) ?_
        refine JL.nil ?_
        refine thenQ.n ?_
        refine J.ret ?_
        refine blkQ.r ?_
        refine thenQ.r ?_
        exact ⟨_, selP [.k] _, _, RetEv.one rfl (REv.tmp rfl (.refl _)), rfl, sel_perm [.k] _, ⟨ret_b (by simp [partOk, V.css_length, keysAV_length] at *; grind), rfl⟩⟩
      · skip
        refine J.seq ?_
        refine J.region_lit ?_
        refine JL.q rfl rfl rfl (QW.eql (.tmp rfl) .const) ?_
        refine JL.q rfl rfl rfl (QW.assign (.tmp rfl)) ?_
        refine JL.nil ?_
        refine thenQ.n ?_
        refine J.cond (.tmp rfl) (fun c4 => ?_) (fun c4 => ?_)
        · skip
          refine J.seq ?_
          refine J.region_lit ?_
          refine JL.q rfl rfl rfl (QW.move (.tmp rfl)) ?_
          refine JL.q rfl rfl rfl (QW.move (.tmp rfl)) ?_
          refine JL.g rfl rfl rfl rfl rfl (fun hg => (QW.field_ptr fo26_2 (.tmp rfl) rfl)) ?_
          refine JL.g rfl rfl rfl rfl rfl (fun hg => (QW.load_box1 0 ty9 (.when rfl hg) rfl rfl)) ?_
          refine JL.g rfl rfl rfl rfl rfl (fun hg => (QW.len_s st9 (.when rfl hg))) ?_
          refine JL.g rfl rfl rfl rfl rfl (fun hg => (QW.leq (.when rfl hg) .const)) ?_
          refine JL.q rfl rfl rfl (QW.pick_and (.tmp rfl) (.tmp rfl)) ?_
          refine JL.q rfl rfl rfl (QW.move (.tmp rfl)) ?_
          refine JL.g rfl rfl rfl rfl rfl (fun hg => (QW.move (.tmp rfl))) ?_
          refine JL.q rfl rfl rfl (QW.pick_and (.tmp rfl) (.tmp rfl)) ?_
          refine JL.q rfl rfl rfl (QW.move (.tmp rfl)) ?_
          refine JL.g rfl rfl rfl rfl rfl (fun hg => (QW.move (.tmp rfl))) ?_
          refine JL.q rfl rfl rfl (QW.pick_and (.tmp rfl) (.tmp rfl)) ?_
          refine JL.q rfl rfl rfl (QW.assign (.tmp rfl)) ?_
          refine JL.nil ?_
          refine thenQ.n ?_
          refine J.ret ?_
          refine blkQ.r ?_
          refine thenQ.r ?_
          exact ⟨_, selP [.k] _, _, RetEv.one rfl (REv.tmp rfl (.refl _)), rfl, sel_perm [.k] _, ⟨ret_b (by simp [partOk, V.css_length, keysAV_length] at *; grind), rfl⟩⟩
        · skip
          refine J.seq ?_
          refine J.region_lit ?_
          refine JL.q rfl rfl rfl (QW.eql (.tmp rfl) .const) ?_
          refine JL.q rfl rfl rfl (QW.assign (.tmp rfl)) ?_
          refine JL.nil ?_
          refine thenQ.n ?_
          refine J.cond (.tmp rfl) (fun c5 => ?_) (fun c5 => ?_)
          · skip
            refine J.seq ?_
            refine J.region_lit ?_
            refine JL.q rfl rfl rfl (QW.move (.tmp rfl)) ?_
            refine JL.q rfl rfl rfl (QW.move (.tmp rfl)) ?_
            refine JL.g rfl rfl rfl rfl rfl (fun hg => (QW.move (.tmp rfl))) ?_
            refine JL.q rfl rfl rfl (QW.pick_and (.tmp rfl) (.tmp rfl)) ?_
            refine JL.q rfl rfl rfl (QW.move (.tmp rfl)) ?_
            refine JL.g rfl rfl rfl rfl rfl (fun hg => (QW.move (.tmp rfl))) ?_
            refine JL.q rfl rfl rfl (QW.pick_and (.tmp rfl) (.tmp rfl)) ?_
            refine JL.q rfl rfl rfl (QW.move (.tmp rfl)) ?_
            refine JL.g rfl rfl rfl rfl rfl (fun hg => (QW.field_ptr fo26_4 (.tmp rfl) rfl)) ?_
            refine JL.g rfl rfl rfl rfl rfl (fun hg => (QW.load_box1 0 ty24 (.when rfl hg) rfl rfl)) ?_
            refine JL.g rfl rfl rfl rfl rfl (fun hg => (by first | exact QW.len_sl sl24 (.when rfl hg) | exact QW.len_nil sl24 (.when rfl hg))) ?_
            refine JL.g rfl rfl rfl rfl rfl (fun hg => (QW.leq (.when rfl hg) .const)) ?_
            refine JL.q rfl rfl rfl (QW.pick_and (.tmp rfl) (.tmp rfl)) ?_
            refine JL.q rfl rfl rfl (QW.assign (.tmp rfl)) ?_
            refine JL.nil ?_
            refine thenQ.n ?_
            refine J.ret ?_
            refine blkQ.r ?_
            refine thenQ.r ?_
            exact ⟨_, selP [.k] _, _, RetEv.one rfl (REv.tmp rfl (.refl _)), rfl, sel_perm [.k] _, ⟨ret_b (by simp [partOk, V.css_length, keysAV_length] at *; grind), rfl⟩⟩
          · skip
            refine J.seq ?_
            refine J.region_lit ?_
            refine JL.q rfl rfl rfl (QW.eql (.tmp rfl) .const) ?_
            refine JL.q rfl rfl rfl (QW.assign (.tmp rfl)) ?_
            refine JL.nil ?_
            refine thenQ.n ?_
            refine J.cond (.tmp rfl) (fun c6 => ?_) (fun c6 => ?_)
            · skip
              refine J.seq ?_
              refine J.region_lit ?_
              refine JL.q rfl rfl rfl (QW.move (.tmp rfl)) ?_
              refine JL.q rfl rfl rfl (QW.move (.tmp rfl)) ?_
              refine JL.g rfl rfl rfl rfl rfl (fun hg => (QW.move (.tmp rfl))) ?_
              refine JL.q rfl rfl rfl (QW.pick_and (.tmp rfl) (.tmp rfl)) ?_
              refine JL.q rfl rfl rfl (QW.move (.tmp rfl)) ?_
              refine JL.g rfl rfl rfl rfl rfl (fun hg => (QW.field_ptr fo26_4 (.tmp rfl) rfl)) ?_
              refine JL.g rfl rfl rfl rfl rfl (fun hg => (QW.load_box1 0 ty24 (.when rfl hg) rfl rfl)) ?_
              refine JL.g rfl rfl rfl rfl rfl (fun hg => (by first | exact QW.len_sl sl24 (.when rfl hg) | exact QW.len_nil sl24 (.when rfl hg))) ?_
              refine JL.g rfl rfl rfl rfl rfl (fun hg => (QW.leq (.when rfl hg) .const)) ?_
              refine JL.q rfl rfl rfl (QW.pick_and (.tmp rfl) (.tmp rfl)) ?_
              refine JL.q rfl rfl rfl (QW.move (.tmp rfl)) ?_
              refine JL.g rfl rfl rfl rfl rfl (fun hg => (QW.field_ptr fo26_3 (.tmp rfl) rfl)) ?_
              refine JL.g rfl rfl rfl rfl rfl (fun hg => (QW.load_box1 0 ty23 (.when rfl hg) rfl rfl)) ?_
              refine JL.g rfl rfl rfl rfl rfl (fun hg => (by first | exact QW.len_sl sl23 (.when rfl hg) | exact QW.len_nil sl23 (.when rfl hg))) ?_
              refine JL.g rfl rfl rfl rfl rfl (fun hg => (QW.field_ptr fo26_4 (.tmp rfl) rfl)) ?_
              refine JL.g rfl rfl rfl rfl rfl (fun hg => (QW.load_box1 0 ty24 (.when rfl hg) rfl rfl)) ?_
              refine JL.g rfl rfl rfl rfl rfl (fun hg => (by first | exact QW.len_sl sl24 (.when rfl hg) | exact QW.len_nil sl24 (.when rfl hg))) ?_
              refine JL.g rfl rfl rfl rfl rfl (fun hg => (QW.eql (.when rfl hg) (.when rfl hg))) ?_
              refine JL.q rfl rfl rfl (QW.pick_and (.tmp rfl) (.tmp rfl)) ?_
              refine JL.q rfl rfl rfl (QW.assign (.tmp rfl)) ?_
              refine JL.nil ?_
              refine thenQ.n ?_
              refine J.seq ?_
              refine J.seq ?_
              refine J.region_lit ?_
              refine JL.q rfl rfl rfl (QW.assign .const) ?_
              refine JL.nil ?_
              refine thenQ.n ?_
              refine J.block ?_
              refine J.loopK (ι := Nat × Bool) [1, 2] (fun ⟨j, ok⟩ => [(7, .c (.bool ok)), (8, .c (.int .i64 (j : Int)))]) (fun _ oo => oo) (fun ⟨j, ok⟩ => j ≤ ks.length ∧ (ok = true → (b == 0 && t == [] && decide (is.length ≤ 32) && ks.length == is.length && (List.range j).all (keyAt ks)) = true) ∧ (ok = false → (b == 0 && t == [] && decide (is.length ≤ 32) && ks.length == is.length && keysOk ks) = false)) (fun ⟨j, ok⟩ => ks.length - j) ⟨0, _⟩ (⟨Nat.zero_le _, by simp [V.css_length, keysAV_length]; grind, by simp [V.css_length, keysAV_length]; grind⟩) (Wk.re (.cons rfl (.refl _) (.cons rfl (.refl _) (.cons rfl (.refl _) (.cons rfl (.refl _) .nil)))) (Reown.refl _) (fun _ h => by first | exact h | simp [h])) ?_
              intro ⟨j, ok⟩ ⟨hj, ht, hf⟩
              refine J.conv (by (try simp only [stepsO, List.map_cons, List.map_nil, valO, nthO, curO, mrg, List.reverse_cons, List.reverse_nil, List.nil_append, List.cons_append, List.append_nil, List.getElem?_cons_zero, List.getElem?_cons_succ, Option.map_some, Option.getD_some, List.set_cons_zero, List.set_cons_succ, AV.cellsOf, splice_zero, splice_succ, Nat.zero_add, Nat.reduceAdd]); rfl) ?_
              refine J.seq ?_
              refine J.seq ?_
              refine J.region_lit ?_
              refine JL.q rfl rfl rfl (QW.move (.tmp rfl)) ?_
              refine JL.q rfl rfl rfl (QW.move (.tmp rfl)) ?_
              refine JL.g rfl rfl rfl rfl rfl (fun hg => (QW.move (.tmp rfl))) ?_
              refine JL.g rfl rfl rfl rfl rfl (fun hg => (QW.field_ptr fo26_3 (.tmp rfl) rfl)) ?_
              refine JL.g rfl rfl rfl rfl rfl (fun hg => (QW.load_box1 0 ty23 (.when rfl hg) rfl rfl)) ?_
              refine JL.g rfl rfl rfl rfl rfl (fun hg => (by first | exact QW.len_sl sl23 (.when rfl hg) | exact QW.len_nil sl23 (.when rfl hg))) ?_
              refine JL.g rfl rfl rfl rfl rfl (fun hg => (QW.lss (.when rfl hg) (.when rfl hg))) ?_
              refine JL.q rfl rfl rfl (QW.pick_and (.tmp rfl) (.tmp rfl)) ?_
              refine JL.nil ?_
              refine thenQ.n ?_
              refine J.cond (.tmp rfl) (fun c7 => ?_) (fun c7 => ?_)
              · skip
                refine J.skip ?_
                refine thenQ.n ?_
                refine J.seq ?_
                refine J.block ?_
                refine J.region_tailK 21 mixed (by kernel_rfl) (by kernel_rfl) (by kernel_rfl) rfl ?_
                refine .cons [] rfl rfl rfl (.q rfl (QW.field_ptr fo26_3 (.tmp rfl) rfl)) ?_
                refine .cons [129] rfl rfl rfl (.q rfl (QW.load_box1 0 ty23 (.tmp rfl) rfl rfl)) ?_
                refine .cons [] rfl rfl rfl (.q rfl (QW.move (.tmp rfl))) ?_
                refine .cons [130, 131] rfl rfl rfl (.q rfl (QW.index_sl sl23 ty9 rfl (.tmp rfl) (.tmp rfl) (by first | rfl | omega | (simp; done)) (by exact keysAV_getD (by simp [keysAV_length] at *; omega)))) ?_
                refine .cons [132] rfl rfl rfl (.q rfl (QW.load_ref1 ty9 (.tmp rfl) rfl)) ?_
                refine .cons [133] rfl rfl rfl (.q rfl (QW.call gofn131 (.cons (.tmp rfl) .nil) (rkey_ok _))) ?_
                refine .cons [134] rfl rfl rfl (.q rfl (QW.move (.tmp rfl))) ?_
                refine .cons [135] rfl rfl rfl (.g rfl rfl rfl (fun hg => (QW.move (.tmp rfl)))) ?_
                refine .cons [136, 135] rfl rfl rfl (.g rfl rfl rfl (fun hg => (QW.eql (.when rfl hg) .const))) ?_
                refine .cons [137, 135] rfl rfl rfl (.g rfl rfl rfl (fun hg => (QW.move (.when rfl hg)))) ?_
                refine .cons [138] rfl rfl rfl (.gg rfl rfl rfl (fun hg => (QW.field_ptr fo26_3 (.tmp rfl) rfl))) ?_
                refine .cons [139, 138] rfl rfl rfl (.gg rfl rfl rfl (fun hg => (QW.load_box1 0 ty23 (.when rfl hg) rfl rfl))) ?_
                refine .cons [138] rfl rfl rfl (.gg rfl rfl rfl (fun hg => (QW.move (.tmp rfl)))) ?_
                refine .cons [140, 141, 138] rfl rfl rfl (.gg rfl rfl rfl (fun hg => (QW.index_sl sl23 ty9 rfl (.when rfl hg) (.when rfl hg) (by first | rfl | omega | (simp; done)) (by exact keysAV_getD (by simp [keysAV_length] at *; omega))))) ?_
                refine .cons [142, 138] rfl rfl rfl (.gg rfl rfl rfl (fun hg => (QW.load_ref1 ty9 (.when rfl hg) rfl))) ?_
                refine .cons [138] rfl rfl rfl (.gg rfl rfl rfl (fun hg => (QW.field_ptr fo26_3 (.tmp rfl) rfl))) ?_
                refine .cons [144, 138] rfl rfl rfl (.gg rfl rfl rfl (fun hg => (QW.load_box1 0 ty23 (.when rfl hg) rfl rfl))) ?_
                refine .cons [138] rfl rfl rfl (.gg rfl rfl rfl (fun hg => (QW.move (.tmp rfl)))) ?_
                refine .cons [146, 138] rfl rfl rfl (.gg rfl rfl rfl (fun hg => (QW.sub (c := ((j - 1 : Nat) : Int)) (.when rfl hg) .const (w64n (by simp at hg; omega) (by omega))))) ?_
                refine .cons [145, 147, 138] rfl rfl rfl (.gg rfl rfl rfl (fun hg => (QW.index_sl (m := j - 1) sl23 ty9 rfl (.when rfl hg) (.when rfl hg) rfl (keysAV_getD (by simp [keysAV_length] at *; omega))))) ?_
                refine .cons [148, 138] rfl rfl rfl (.gg rfl rfl rfl (fun hg => (QW.load_ref1 ty9 (.when rfl hg) rfl))) ?_
                refine .nil ?_
                refine JL.gg rfl rfl rfl rfl rfl (fun hg => (QW.gtr_s (.when rfl hg) (.when rfl hg))) ?_
                refine JL.g rfl rfl rfl rfl rfl (fun hg => (by first | exact QW.pick_or (.when rfl hg) (.tmp rfl) | exact QW.pick_or2 hg (.when rfl hg) (.tmp rfl))) ?_
                refine JL.q rfl rfl rfl (QW.pick_and (.tmp rfl) (.tmp rfl)) ?_
                refine JL.q rfl rfl rfl (QW.assign (.tmp rfl)) ?_
                refine JL.nil ?_
                refine blkQ.n ?_
                refine thenQ.n ?_
                refine J.region_lit ?_
                refine JL.q rfl rfl rfl (QW.move (.tmp rfl)) ?_
                refine JL.q rfl rfl rfl (QW.add (.tmp rfl) .const (by first | exact w64n (by first | rfl | omega | (simp; done)) (by omega) | exact w64 (by omega) | rfl)) ?_
                refine JL.q rfl rfl rfl (QW.assign (.tmp rfl)) ?_
                refine JL.nil ?_
                refine thenQ.n ?_
                obtain ⟨hok, hlt⟩ : ok = true ∧ j < ks.length := by simpa [keysAV_length] using c7
                subst hok
                have ht := ht rfl
                simp only [Bool.and_eq_true] at ht
                exact ⟨⟨j + 1, keyAt ks j⟩, ⟨hlt, fun h => by simp only [Bool.and_eq_true]; exact ⟨ht.1, all_range_succ ht.2 h⟩, fun h => by rw [keysOk, all_range_false hlt h]; simp⟩, by show ks.length - (j + 1) < ks.length - j; omega, Wk.re (.cons rfl (Le.boolE (by simp only [keyAt, gtr_less]; congr 2; rw [Bool.eq_iff_iff]; simp)) (.cons rfl (.refl _) (.cons rfl (.refl _) (.cons rfl (.refl _) .nil)))) (Reown.refl _) (fun _ h => by first | exact h | simp [h])⟩
              · skip
                refine J.exit ?_
                refine thenQ.x ?_
                refine thenQ.x ?_
                refine blkQ.hit ?_
                refine thenQ.n ?_
                refine J.seq ?_
                refine J.region_lit ?_
                refine JL.q rfl rfl rfl (QW.move (.tmp rfl)) ?_
                refine JL.q rfl rfl rfl (QW.assign (.tmp rfl)) ?_
                refine JL.nil ?_
                refine thenQ.n ?_
                refine J.ret ?_
                refine blkQ.r ?_
                refine thenQ.r ?_
                obtain rfl : k = 5 := by simpa using c6
                have e : ok = partOk (.mk 5 b t ks is) := by
                  rw [part5]
                  cases ok with
                  | false => exact (hf rfl).symm
                  | true =>
                    obtain rfl : j = ks.length := by simp [keysAV_length] at c7; omega
                    exact (ht rfl).symm
                exact ⟨_, selP [] _, _, RetEv.one rfl (REv.tmp rfl (.refl _)), rfl, sel_perm [] _, by rw [← e], rfl⟩
            · skip
              refine J.skip ?_
              refine blkQ.n ?_
              refine thenQ.n ?_
              refine J.seq ?_
              refine J.region_lit ?_
              refine JL.q rfl rfl rfl (QW.assign .const) ?_
              refine JL.nil ?_
              refine thenQ.n ?_
              refine J.ret ?_
              exact ⟨_, selP [.k] _, _, RetEv.one rfl (REv.tmp rfl (.refl _)), rfl, sel_perm [.k] _, ⟨ret_b (by simp [partOk, V.css_length, keysAV_length] at *; grind), rfl⟩⟩

end Go.Proofs.Ytkiankpmkglhcaa.J
