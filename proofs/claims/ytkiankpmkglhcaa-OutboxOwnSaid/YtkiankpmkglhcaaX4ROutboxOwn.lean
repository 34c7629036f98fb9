/- Texts of this proof, laid together. -/
import Derived.Test.YtkiankpmkglhcaaX3ROutboxOwn
/- Walks: the page's own part of a value; both walks over a value. -/
namespace Go.Proofs.Ytkiankpmkglhcaa.J
open Go Go.RowKit
set_option linter.unusedVariables false
set_option linter.unusedSimpArgs false
set_option maxRecDepth 10000
set_option maxHeartbeats 4000000

theorem part5 (b : Nat) (t : Str) (ks : List Str) (is : List V) : partOk (.mk 5 b t ks is) = (b == 0 && t == [] && decide (is.length ≤ 32) && ks.length == is.length && keysOk ks) := by simp [partOk]

theorem gtr_less (a b : List UInt8) : (!(Op.bytesLess a b || a == b)) = Op.bytesLess b a := by rw [bytesLess_tri]; simp

theorem rpart_ok {fr : Bool} {v : V} {ys : List AV} (hv : Vc fr v ys) (hw : v.wf) : Fn Try.prog 106 [.agg ys] (.c (.bool (partOk v))) := by
  obtain ⟨k, b, t, ks, is⟩ := v
  subst hv
  obtain ⟨-, hb64, -, hk16, -, -, -⟩ := hw.inv
  have hk64 : ks.length ≤ 9223372036854775806 := by unfold reach at hk16; omega
  refine AC.of_J Try.func106 rfl Try.ntmps106 rfl fun w0 A0 => ?_
  refine J.seq ?_
  refine J.region_lit ?_
  refine JL.box_agg (.tmp rfl) rfl fun b1 => ?_
  refine JL.q rfl rfl rfl (QW.assign .const) ?_
  refine JL.nil ?_
  refine thenQ.n ?_
  refine J.seq ?_
  refine J.region_tailK 17 mixed (by kernel_rfl) (by kernel_rfl) (by kernel_rfl) rfl ?_
  refine .cons [] rfl rfl rfl (.q rfl (QW.field_ptr fo26_1 (.tmp rfl) rfl)) ?_
  refine .cons [9] rfl rfl rfl (.q rfl (QW.load_box1 0 ty22 (.tmp rfl) rfl rfl)) ?_
  refine .cons [10] rfl rfl rfl (.q rfl (QW.eql (.tmp rfl) .const)) ?_
  refine .cons [] rfl rfl rfl (.q rfl (QW.field_ptr fo26_2 (.tmp rfl) rfl)) ?_
  refine .cons [12] rfl rfl rfl (.q rfl (QW.load_box1 0 ty9 (.tmp rfl) rfl rfl)) ?_
  refine .cons [13] rfl rfl rfl (.q rfl (QW.eql_s (.tmp rfl) .const)) ?_
  refine .cons [] rfl rfl rfl (.q rfl (QW.field_ptr fo26_3 (.tmp rfl) rfl)) ?_
  refine .cons [15] rfl rfl rfl (.q rfl (QW.load_box1 0 ty23 (.tmp rfl) rfl rfl)) ?_
  refine .cons [16] rfl rfl rfl (.q rfl (by first | exact QW.len_sl sl23 (.tmp rfl) | exact QW.len_nil sl23 (.tmp rfl))) ?_
  refine .cons [17] rfl rfl rfl (.q rfl (QW.eql (.tmp rfl) .const)) ?_
  refine .cons [] rfl rfl rfl (.q rfl (QW.field_ptr fo26_4 (.tmp rfl) rfl)) ?_
  refine .cons [19] rfl rfl rfl (.q rfl (QW.load_box1 0 ty24 (.tmp rfl) rfl rfl)) ?_
  refine .cons [20] rfl rfl rfl (.q rfl (by first | exact QW.len_sl sl24 (.tmp rfl) | exact QW.len_nil sl24 (.tmp rfl))) ?_
  refine .cons [21] rfl rfl rfl (.q rfl (QW.eql (.tmp rfl) .const)) ?_
  refine .cons [11] rfl rfl rfl (.q rfl (QW.assign (.tmp rfl))) ?_
  refine .cons [14] rfl rfl rfl (.q rfl (QW.assign (.tmp rfl))) ?_
  refine .cons [18] rfl rfl rfl (.q rfl (QW.assign (.tmp rfl))) ?_
  refine .nil ?_
  refine JL.q rfl rfl rfl (QW.assign (.tmp rfl)) ?_
  refine JL.nil ?_
  refine thenQ.n ?_
  refine J.seq ?_
  refine J.seq ?_
  refine J.region_lit ?_
  refine JL.q rfl rfl rfl (QW.field_ptr fo26_0 (.tmp rfl) rfl) ?_
  refine JL.q rfl rfl rfl (QW.load_box1 0 ty3 (.tmp rfl) rfl rfl) ?_
  refine JL.nil ?_
  refine thenQ.n ?_
  refine J.block ?_
  refine J.seq ?_
  refine J.region_lit ?_
  refine JL.q rfl rfl rfl (QW.eql (.tmp rfl) .const) ?_
  refine JL.q rfl rfl rfl (QW.assign (.tmp rfl)) ?_
  refine JL.nil ?_
  refine thenQ.n ?_
  refine J.cond (.tmp rfl) (fun c1 => ?_) (fun c1 => ?_)
  · skip
    refine J.seq ?_
    refine J.region_lit ?_
    refine JL.q rfl rfl rfl (QW.move (.tmp rfl)) ?_
    refine JL.q rfl rfl rfl (QW.move (.tmp rfl)) ?_
    refine JL.g rfl rfl rfl rfl rfl (fun hg => (QW.move (.tmp rfl))) ?_
    refine JL.q rfl rfl rfl (QW.pick_and (.tmp rfl) (.tmp rfl)) ?_
    refine JL.q rfl rfl rfl (QW.move (.tmp rfl)) ?_
    refine JL.g rfl rfl rfl rfl rfl (fun hg => (QW.move (.tmp rfl))) ?_
    refine JL.q rfl rfl rfl (QW.pick_and (.tmp rfl) (.tmp rfl)) ?_
    refine JL.q rfl rfl rfl (QW.move (.tmp rfl)) ?_
    refine JL.g rfl rfl rfl rfl rfl (fun hg => (QW.move (.tmp rfl))) ?_
    refine JL.q rfl rfl rfl (QW.pick_and (.tmp rfl) (.tmp rfl)) ?_
    refine JL.q rfl rfl rfl (QW.assign (.tmp rfl)) ?_
    refine JL.nil ?_
    refine thenQ.n ?_
    refine J.ret ?_
    refine blkQ.r ?_
    refine thenQ.r ?_
    exact ⟨_, selP [.k] _, _, RetEv.one rfl (REv.tmp rfl (.refl _)), rfl, sel_perm [.k] _, ⟨ret_b (by simp [partOk, V.css_length, keysAV_length] at *; grind), rfl⟩⟩
  · skip
    refine J.seq ?_
    refine J.region_lit ?_
    refine JL.q rfl rfl rfl (QW.eql (.tmp rfl) .const) ?_
    refine JL.q rfl rfl rfl (QW.assign (.tmp rfl)) ?_
    refine JL.nil ?_
    refine thenQ.n ?_
    refine J.cond (.tmp rfl) (fun c2 => ?_) (fun c2 => ?_)
    · skip
      refine J.seq ?_
      refine J.region_lit ?_
      refine JL.q rfl rfl rfl (QW.field_ptr fo26_1 (.tmp rfl) rfl) ?_
      refine JL.q rfl rfl rfl (QW.load_box1 0 ty22 (.tmp rfl) rfl rfl) ?_
      refine JL.q rfl rfl rfl (QW.leq (.tmp rfl) .const) ?_
      refine JL.q rfl rfl rfl (QW.move (.tmp rfl)) ?_
      refine JL.g rfl rfl rfl rfl rfl (fun hg => (QW.move (.tmp rfl))) ?_
      refine JL.q rfl rfl rfl (QW.pick_and (.tmp rfl) (.tmp rfl)) ?_
      refine JL.q rfl rfl rfl (QW.move (.tmp rfl)) ?_
      refine JL.g rfl rfl rfl rfl rfl (fun hg => (QW.move (.tmp rfl))) ?_
      refine JL.q rfl rfl rfl (QW.pick_and (.tmp rfl) (.tmp rfl)) ?_
      refine JL.q rfl rfl rfl (QW.move (.tmp rfl)) ?_
      refine JL.g rfl rfl rfl rfl rfl (fun hg => (QW.move (.tmp rfl))) ?_
      refine JL.q rfl rfl rfl (QW.pick_and (.tmp rfl) (.tmp rfl)) ?_
      refine JL.q rfl rfl rfl (QW.assign (.tmp rfl)) ?_
      refine JL.nil ?_
      refine thenQ.n ?_
      refine J.ret ?_
      refine blkQ.r ?_
      refine thenQ.r ?_
      exact ⟨_, selP [.k] _, _, RetEv.one rfl (REv.tmp rfl (.refl _)), rfl, sel_perm [.k] _, ⟨ret_b (by simp [partOk, V.css_length, keysAV_length] at *; grind), rfl⟩⟩
    · skip
      refine J.seq ?_
      refine J.region_lit ?_
      refine JL.q rfl rfl rfl (QW.eql (.tmp rfl) .const) ?_
      refine JL.q rfl rfl rfl (QW.assign (.tmp rfl)) ?_
      refine JL.nil ?_
      refine thenQ.n ?_
      refine J.cond (.tmp rfl) (fun c3 => ?_) (fun c3 => ?_)
      · skip
        refine J.seq ?_
        refine J.region_tailK 5 mixed (by kernel_rfl) (by kernel_rfl) (by kernel_rfl) rfl ?_
        refine .cons [] rfl rfl rfl (.q rfl (QW.field_ptr fo26_1 (.tmp rfl) rfl)) ?_
        refine .cons [53] rfl rfl rfl (.q rfl (QW.load_box1 0 ty22 (.tmp rfl) rfl rfl)) ?_
        refine .cons [54] rfl rfl rfl (.q rfl (QW.call gofn130 (.cons (.tmp rfl) .nil) (rcanon_ok _ (by assumption)))) ?_
        refine .cons [] rfl rfl rfl (.q rfl (QW.field_ptr fo26_1 (.tmp rfl) rfl)) ?_
        refine .cons [56] rfl rfl rfl (.q rfl (QW.load_box1 0 ty22 (.tmp rfl) rfl rfl)) ?_
        refine .nil ?_
        refine JL.q rfl rfl rfl (QW.eql (.tmp rfl) (.tmp rfl)) ?_
        refine JL.q rfl rfl rfl (QW.move (.tmp rfl)) ?_
        refine JL.g rfl rfl rfl rfl rfl (fun hg => (QW.move (.tmp rfl))) ?_
        refine JL.q rfl rfl rfl (QW.pick_and (.tmp rfl) (.tmp rfl)) ?_
        refine JL.q rfl rfl rfl (QW.move (.tmp rfl)) ?_
        refine JL.g rfl rfl rfl rfl rfl (fun hg => (QW.move (.tmp rfl))) ?_
        refine JL.q rfl rfl rfl (QW.pick_and (.tmp rfl) (.tmp rfl)) ?_
        refine JL.q rfl rfl rfl (QW.move (.tmp rfl)) ?_
        refine JL.g rfl rfl rfl rfl rfl (fun hg => (QW.move (.tmp rfl))) ?_
        refine JL.q rfl rfl rfl (QW.pick_and (.tmp rfl) (.tmp rfl)) ?_
        refine JL.q rfl rfl rfl (QW.assign (.tmp rfl)) ?_
        refine JL.nil ?_
        refine thenQ.n ?_
        refine J.ret ?_
        refine blkQ.r ?_
        refine thenQ.r ?_
        exact ⟨_, selP [.k] _, _, RetEv.one rfl (REv.tmp rfl (.refl _)), rfl, sel_perm [.k] _, ⟨ret_b (by simp [partOk, V.css_length, keysAV_length] at *; grind), rfl⟩⟩
      · skip
        refine J.seq ?_
        refine J.region_lit ?_
        refine JL.q rfl rfl rfl (QW.eql (.tmp rfl) .const) ?_
        refine JL.q rfl rfl rfl (QW.assign (.tmp rfl)) ?_
        refine JL.nil ?_
        refine thenQ.n ?_
        refine J.cond (.tmp rfl) (fun c4 => ?_) (fun c4 => ?_)
        · skip
          refine J.seq ?_
          refine J.region_lit ?_
          refine JL.q rfl rfl rfl (QW.move (.tmp rfl)) ?_
          refine JL.q rfl rfl rfl (QW.move (.tmp rfl)) ?_
          refine JL.g rfl rfl rfl rfl rfl (fun hg => (QW.field_ptr fo26_2 (.tmp rfl) rfl)) ?_
          refine JL.g rfl rfl rfl rfl rfl (fun hg => (QW.load_box1 0 ty9 (.when rfl hg) rfl rfl)) ?_
          refine JL.g rfl rfl rfl rfl rfl (fun hg => (QW.len_s st9 (.when rfl hg))) ?_
          refine JL.g rfl rfl rfl rfl rfl (fun hg => (QW.leq (.when rfl hg) .const)) ?_
          refine JL.q rfl rfl rfl (QW.pick_and (.tmp rfl) (.tmp rfl)) ?_
          refine JL.q rfl rfl rfl (QW.move (.tmp rfl)) ?_
          refine JL.g rfl rfl rfl rfl rfl (fun hg => (QW.move (.tmp rfl))) ?_
          refine JL.q rfl rfl rfl (QW.pick_and (.tmp rfl) (.tmp rfl)) ?_
          refine JL.q rfl rfl rfl (QW.move (.tmp rfl)) ?_
          refine JL.g rfl rfl rfl rfl rfl (fun hg => (QW.move (.tmp rfl))) ?_
          refine JL.q rfl rfl rfl (QW.pick_and (.tmp rfl) (.tmp rfl)) ?_
          refine JL.q rfl rfl rfl (QW.assign (.tmp rfl)) ?_
          refine JL.nil ?_
          refine thenQ.n ?_
          refine J.ret ?_
          refine blkQ.r ?_
          refine thenQ.r ?_
          exact ⟨_, selP [.k] _, _, RetEv.one rfl (REv.tmp rfl (.refl _)), rfl, sel_perm [.k] _, ⟨ret_b (by simp [partOk, V.css_length, keysAV_length] at *; grind), rfl⟩⟩
        · skip
          refine J.seq ?_
          refine J.region_lit ?_
          refine JL.q rfl rfl rfl (QW.eql (.tmp rfl) .const) ?_
          refine JL.q rfl rfl rfl (QW.assign (.tmp rfl)) ?_
          refine JL.nil ?_
          refine thenQ.n ?_
          refine J.cond (.tmp rfl) (fun c5 => ?_) (fun c5 => ?_)
          · skip
            refine J.seq ?_
            refine J.region_lit ?_
            refine JL.q rfl rfl rfl (QW.move (.tmp rfl)) ?_
            refine JL.q rfl rfl rfl (QW.move (.tmp rfl)) ?_
            refine JL.g rfl rfl rfl rfl rfl (fun hg => (QW.move (.tmp rfl))) ?_
            refine JL.q rfl rfl rfl (QW.pick_and (.tmp rfl) (.tmp rfl)) ?_
            refine JL.q rfl rfl rfl (QW.move (.tmp rfl)) ?_
            refine JL.g rfl rfl rfl rfl rfl (fun hg => (QW.move (.tmp rfl))) ?_
            refine JL.q rfl rfl rfl (QW.pick_and (.tmp rfl) (.tmp rfl)) ?_
            refine JL.q rfl rfl rfl (QW.move (.tmp rfl)) ?_
            refine JL.g rfl rfl rfl rfl rfl (fun hg => (QW.field_ptr fo26_4 (.tmp rfl) rfl)) ?_
            refine JL.g rfl rfl rfl rfl rfl (fun hg => (QW.load_box1 0 ty24 (.when rfl hg) rfl rfl)) ?_
            refine JL.g rfl rfl rfl rfl rfl (fun hg => (by first | exact QW.len_sl sl24 (.when rfl hg) | exact QW.len_nil sl24 (.when rfl hg))) ?_
            refine JL.g rfl rfl rfl rfl rfl (fun hg => (QW.leq (.when rfl hg) .const)) ?_
            refine JL.q rfl rfl rfl (QW.pick_and (.tmp rfl) (.tmp rfl)) ?_
            refine JL.q rfl rfl rfl (QW.assign (.tmp rfl)) ?_
            refine JL.nil ?_
            refine thenQ.n ?_
            refine J.ret ?_
            refine blkQ.r ?_
            refine thenQ.r ?_
            exact ⟨_, selP [.k] _, _, RetEv.one rfl (REv.tmp rfl (.refl _)), rfl, sel_perm [.k] _, ⟨ret_b (by simp [partOk, V.css_length, keysAV_length] at *; grind), rfl⟩⟩
          · skip
            refine J.seq ?_
            refine J.region_lit ?_
            refine JL.q rfl rfl rfl (QW.eql (.tmp rfl) .const) ?_
            refine JL.q rfl rfl rfl (QW.assign (.tmp rfl)) ?_
            refine JL.nil ?_
            refine thenQ.n ?_
            refine J.cond (.tmp rfl) (fun c6 => ?_) (fun c6 => ?_)
            · skip
              refine J.seq ?_
              refine J.region_lit ?_
              refine JL.q rfl rfl rfl (QW.move (.tmp rfl)) ?_
              refine JL.q rfl rfl rfl (QW.move (.tmp rfl)) ?_
              refine JL.g rfl rfl rfl rfl rfl (fun hg => (QW.move (.tmp rfl))) ?_
              refine JL.q rfl rfl rfl (QW.pick_and (.tmp rfl) (.tmp rfl)) ?_
              refine JL.q rfl rfl rfl (QW.move (.tmp rfl)) ?_
              refine JL.g rfl rfl rfl rfl rfl (fun hg => (QW.field_ptr fo26_4 (.tmp rfl) rfl)) ?_
              refine JL.g rfl rfl rfl rfl rfl (fun hg => (QW.load_box1 0 ty24 (.when rfl hg) rfl rfl)) ?_
              refine JL.g rfl rfl rfl rfl rfl (fun hg => (by first | exact QW.len_sl sl24 (.when rfl hg) | exact QW.len_nil sl24 (.when rfl hg))) ?_
              refine JL.g rfl rfl rfl rfl rfl (fun hg => (QW.leq (.when rfl hg) .const)) ?_
              refine JL.q rfl rfl rfl (QW.pick_and (.tmp rfl) (.tmp rfl)) ?_
              refine JL.q rfl rfl rfl (QW.move (.tmp rfl)) ?_
              refine JL.g rfl rfl rfl rfl rfl (fun hg => (QW.field_ptr fo26_3 (.tmp rfl) rfl)) ?_
              refine JL.g rfl rfl rfl rfl rfl (fun hg => (QW.load_box1 0 ty23 (.when rfl hg) rfl rfl)) ?_
              refine JL.g rfl rfl rfl rfl rfl (fun hg => (by first | exact QW.len_sl sl23 (.when rfl hg) | exact QW.len_nil sl23 (.when rfl hg))) ?_
              refine JL.g rfl rfl rfl rfl rfl (fun hg => (QW.field_ptr fo26_4 (.tmp rfl) rfl)) ?_
              refine JL.g rfl rfl rfl rfl rfl (fun hg => (QW.load_box1 0 ty24 (.when rfl hg) rfl rfl)) ?_
              refine JL.g rfl rfl rfl rfl rfl (fun hg => (by first | exact QW.len_sl sl24 (.when rfl hg) | exact QW.len_nil sl24 (.when rfl hg))) ?_
              refine JL.g rfl rfl rfl rfl rfl (fun hg => (QW.eql (.when rfl hg) (.when rfl hg))) ?_
              refine JL.q rfl rfl rfl (QW.pick_and (.tmp rfl) (.tmp rfl)) ?_
              refine JL.q rfl rfl rfl (QW.assign (.tmp rfl)) ?_
              refine JL.nil ?_
              refine thenQ.n ?_
              refine J.seq ?_
              refine J.seq ?_
              refine J.region_lit ?_
              refine JL.q rfl rfl rfl (QW.assign .const) ?_
              refine JL.nil ?_
              refine thenQ.n ?_
              refine J.block ?_
              refine J.loopK (ι := Nat × Bool) [1, 2] (fun ⟨j, ok⟩ => [(7, .c (.bool ok)), (8, .c (.int .i64 (j : Int)))]) (fun _ oo => oo) (fun ⟨j, ok⟩ => j ≤ ks.length ∧ (ok = true → (b == 0 && t == [] && decide (is.length ≤ 32) && ks.length == is.length && (List.range j).all (keyAt ks)) = true) ∧ (ok = false → (b == 0 && t == [] && decide (is.length ≤ 32) && ks.length == is.length && keysOk ks) = false)) (fun ⟨j, ok⟩ => ks.length - j) ⟨0, _⟩ (⟨Nat.zero_le _, by simp [V.css_length, keysAV_length]; grind, by simp [V.css_length, keysAV_length]; grind⟩) (Wk.re (.cons rfl (.refl _) (.cons rfl (.refl _) (.cons rfl (.refl _) (.cons rfl (.refl _) .nil)))) (Reown.refl _) (fun _ h => by first | exact h | simp [h])) ?_
              intro ⟨j, ok⟩ ⟨hj, ht, hf⟩
              refine J.conv (by (try simp only [stepsO, List.map_cons, List.map_nil, valO, nthO, curO, mrg, List.reverse_cons, List.reverse_nil, List.nil_append, List.cons_append, List.append_nil, List.getElem?_cons_zero, List.getElem?_cons_succ, Option.map_some, Option.getD_some, List.set_cons_zero, List.set_cons_succ, AV.cellsOf, splice_zero, splice_succ, Nat.zero_add, Nat.reduceAdd]); rfl) ?_
              refine J.seq ?_
              refine J.seq ?_
              refine J.region_lit ?_
              refine JL.q rfl rfl rfl (QW.move (.tmp rfl)) ?_
              refine JL.q rfl rfl rfl (QW.move (.tmp rfl)) ?_
              refine JL.g rfl rfl rfl rfl rfl (fun hg => (QW.move (.tmp rfl))) ?_
              refine JL.g rfl rfl rfl rfl rfl (fun hg => (QW.field_ptr fo26_3 (.tmp rfl) rfl)) ?_
              refine JL.g rfl rfl rfl rfl rfl (fun hg => (QW.load_box1 0 ty23 (.when rfl hg) rfl rfl)) ?_
              refine JL.g rfl rfl rfl rfl rfl (fun hg => (by first | exact QW.len_sl sl23 (.when rfl hg) | exact QW.len_nil sl23 (.when rfl hg))) ?_
              refine JL.g rfl rfl rfl rfl rfl (fun hg => (QW.lss (.when rfl hg) (.when rfl hg))) ?_
              refine JL.q rfl rfl rfl (QW.pick_and (.tmp rfl) (.tmp rfl)) ?_
              refine JL.nil ?_
              refine thenQ.n ?_
              refine J.cond (.tmp rfl) (fun c7 => ?_) (fun c7 => ?_)
              · skip
                refine J.skip ?_
                refine thenQ.n ?_
                refine J.seq ?_
                refine J.block ?_
                refine J.region_tailK 21 mixed (by kernel_rfl) (by kernel_rfl) (by kernel_rfl) rfl ?_
                refine .cons [] rfl rfl rfl (.q rfl (QW.field_ptr fo26_3 (.tmp rfl) rfl)) ?_
                refine .cons [129] rfl rfl rfl (.q rfl (QW.load_box1 0 ty23 (.tmp rfl) rfl rfl)) ?_
                refine .cons [] rfl rfl rfl (.q rfl (QW.move (.tmp rfl))) ?_
                refine .cons [130, 131] rfl rfl rfl (.q rfl (QW.index_sl sl23 ty9 rfl (.tmp rfl) (.tmp rfl) (by first | rfl | omega | (simp; done)) (by exact keysAV_getD (by simp [keysAV_length] at *; omega)))) ?_
                refine .cons [132] rfl rfl rfl (.q rfl (QW.load_ref1 ty9 (.tmp rfl) rfl)) ?_
                refine .cons [133] rfl rfl rfl (.q rfl (QW.call gofn131 (.cons (.tmp rfl) .nil) (rkey_ok _))) ?_
                refine .cons [134] rfl rfl rfl (.q rfl (QW.move (.tmp rfl))) ?_
                refine .cons [135] rfl rfl rfl (.g rfl rfl rfl (fun hg => (QW.move (.tmp rfl)))) ?_
                refine .cons [136, 135] rfl rfl rfl (.g rfl rfl rfl (fun hg => (QW.eql (.when rfl hg) .const))) ?_
                refine .cons [137, 135] rfl rfl rfl (.g rfl rfl rfl (fun hg => (QW.move (.when rfl hg)))) ?_
                refine .cons [138] rfl rfl rfl (.gg rfl rfl rfl (fun hg => (QW.field_ptr fo26_3 (.tmp rfl) rfl))) ?_
                refine .cons [139, 138] rfl rfl rfl (.gg rfl rfl rfl (fun hg => (QW.load_box1 0 ty23 (.when rfl hg) rfl rfl))) ?_
                refine .cons [138] rfl rfl rfl (.gg rfl rfl rfl (fun hg => (QW.move (.tmp rfl)))) ?_
                refine .cons [140, 141, 138] rfl rfl rfl (.gg rfl rfl rfl (fun hg => (QW.index_sl sl23 ty9 rfl (.when rfl hg) (.when rfl hg) (by first | rfl | omega | (simp; done)) (by exact keysAV_getD (by simp [keysAV_length] at *; omega))))) ?_
                refine .cons [142, 138] rfl rfl rfl (.gg rfl rfl rfl (fun hg => (QW.load_ref1 ty9 (.when rfl hg) rfl))) ?_
                refine .cons [138] rfl rfl rfl (.gg rfl rfl rfl (fun hg => (QW.field_ptr fo26_3 (.tmp rfl) rfl))) ?_
                refine .cons [144, 138] rfl rfl rfl (.gg rfl rfl rfl (fun hg => (QW.load_box1 0 ty23 (.when rfl hg) rfl rfl))) ?_
                refine .cons [138] rfl rfl rfl (.gg rfl rfl rfl (fun hg => (QW.move (.tmp rfl)))) ?_
                refine .cons [146, 138] rfl rfl rfl (.gg rfl rfl rfl (fun hg => (QW.sub (c := ((j - 1 : Nat) : Int)) (.when rfl hg) .const (w64n (by simp at hg; omega) (by omega))))) ?_
                refine .cons [145, 147, 138] rfl rfl rfl (.gg rfl rfl rfl (fun hg => (QW.index_sl (m := j - 1) sl23 ty9 rfl (.when rfl hg) (.when rfl hg) rfl (keysAV_getD (by simp [keysAV_length] at *; omega))))) ?_
                refine .cons [148, 138] rfl rfl rfl (.gg rfl rfl rfl (fun hg => (QW.load_ref1 ty9 (.when rfl hg) rfl))) ?_
                refine .nil ?_
                refine JL.gg rfl rfl rfl rfl rfl (fun hg => (QW.gtr_s (.when rfl hg) (.when rfl hg))) ?_
                refine JL.g rfl rfl rfl rfl rfl (fun hg => (by first | exact QW.pick_or (.when rfl hg) (.tmp rfl) | exact QW.pick_or2 hg (.when rfl hg) (.tmp rfl))) ?_
                refine JL.q rfl rfl rfl (QW.pick_and (.tmp rfl) (.tmp rfl)) ?_
                refine JL.q rfl rfl rfl (QW.assign (.tmp rfl)) ?_
                refine JL.nil ?_
                refine blkQ.n ?_
                refine thenQ.n ?_
                refine J.region_lit ?_
                refine JL.q rfl rfl rfl (QW.move (.tmp rfl)) ?_
                refine JL.q rfl rfl rfl (QW.add (.tmp rfl) .const (by first | exact w64n (by first | rfl | omega | (simp; done)) (by omega) | exact w64 (by omega) | rfl)) ?_
                refine JL.q rfl rfl rfl (QW.assign (.tmp rfl)) ?_
                refine JL.nil ?_
                refine thenQ.n ?_
                obtain ⟨hok, hlt⟩ : ok = true ∧ j < ks.length := by simpa [keysAV_length] using c7
                subst hok
                have ht := ht rfl
                simp only [Bool.and_eq_true] at ht
                exact ⟨⟨j + 1, keyAt ks j⟩, ⟨hlt, fun h => by simp only [Bool.and_eq_true]; exact ⟨ht.1, all_range_succ ht.2 h⟩, fun h => by rw [keysOk, all_range_false hlt h]; simp⟩, by show ks.length - (j + 1) < ks.length - j; omega, Wk.re (.cons rfl (Le.boolE (by simp only [keyAt, gtr_less]; congr 2; rw [Bool.eq_iff_iff]; simp)) (.cons rfl (.refl _) (.cons rfl (.refl _) (.cons rfl (.refl _) .nil)))) (Reown.refl _) (fun _ h => by first | exact h | simp [h])⟩
              · skip
                refine J.exit ?_
                refine thenQ.x ?_
                refine thenQ.x ?_
                refine blkQ.hit ?_
                refine thenQ.n ?_
                refine J.seq ?_
                refine J.region_lit ?_
                refine JL.q rfl rfl rfl (QW.move (.tmp rfl)) ?_
                refine JL.q rfl rfl rfl (QW.assign (.tmp rfl)) ?_
                refine JL.nil ?_
                refine thenQ.n ?_
                refine J.ret ?_
                refine blkQ.r ?_
                refine thenQ.r ?_
                obtain rfl : k = 5 := by simpa using c6
                have e : ok = partOk (.mk 5 b t ks is) := by
                  rw [part5]
                  cases ok with
                  | false => exact (hf rfl).symm
                  | true =>
                    obtain rfl : j = ks.length := by simp [keysAV_length] at c7; omega
                    exact (ht rfl).symm
                exact ⟨_, selP [] _, _, RetEv.one rfl (REv.tmp rfl (.refl _)), rfl, sel_perm [] _, by rw [← e], rfl⟩
            · skip
              refine J.skip ?_
              refine blkQ.n ?_
              refine thenQ.n ?_
              refine J.seq ?_
              refine J.region_lit ?_
              refine JL.q rfl rfl rfl (QW.assign .const) ?_
              refine JL.nil ?_
              refine thenQ.n ?_
              refine J.ret ?_
              exact ⟨_, selP [.k] _, _, RetEv.one rfl (REv.tmp rfl (.refl _)), rfl, sel_perm [.k] _, ⟨ret_b (by simp [partOk, V.css_length, keysAV_length] at *; grind), rfl⟩⟩

end Go.Proofs.Ytkiankpmkglhcaa.J

/- Walks: both walks over a value. -/
namespace Go.Proofs.Ytkiankpmkglhcaa.J
open Go Go.RowKit
set_option linter.unusedVariables false
set_option linter.unusedSimpArgs false
set_option maxRecDepth 10000
set_option maxHeartbeats 4000000

theorem V.chks_cons {is : List V} {j : Nat} (h : j < is.length) (lev n : Int) : V.chks (is.drop j) lev n = if (V.chk is[j] (lev + 1) n).1 ≠ 0 then V.chk is[j] (lev + 1) n else V.chks (is.drop (j + 1)) lev (V.chk is[j] (lev + 1) n).2 := by
  rw [List.drop_eq_getElem_cons h, V.chks]
theorem V.depths_cons {is : List V} {j : Nat} (h : j < is.length) : V.depths (is.drop j) = max is[j].depth (V.depths (is.drop (j + 1))) := by
  rw [List.drop_eq_getElem_cons h, V.depths]
def WalkR (v : V) (lev n : Int) : AV → List Own → Prop := fun x o => o = [] ∧ ∃ p d : Int, x = .tup [.c (.int .i64 p), .c (.int .i64 d), .c (.int .i64 (v.chk lev n).1)] ∧ ((v.chk lev n).1 = 0 → p = (v.chk lev n).2 ∧ d = lev + v.depth - 1)
theorem WalkR.mk {v : V} {lev n p d e : Int} (he : e = (v.chk lev n).1) (h : (v.chk lev n).1 = 0 → p = (v.chk lev n).2 ∧ d = lev + v.depth - 1) : RetR (WalkR v lev n) (.ret (.tup [.c (.int .i64 p), .c (.int .i64 d), .c (.int .i64 e)])) [] :=
  ⟨_, rfl, rfl, p, d, by rw [he], h⟩

theorem rwalk_n  : ∀ (n : Nat) {v : V} {ys : List AV} {fr : Bool} {lev p : Int}, Vc fr v ys → v.wf → 1 ≤ lev ∧ lev ≤ 9 → 0 ≤ p ∧ p ≤ 512 → v.sz ≤ n →
    AC Try.prog 74 [] [.agg ys, .c (.int .i64 lev), .c (.int .i64 p)] (RetR (WalkR v lev p)) := by
  intro n
  induction n with
  | zero => intro v ys fr lev p hv hw hl hp h; exact absurd h (by have := V.sz_pos v; omega)
  | succ n ih =>
    intro v ys fr lev p hv hw hl hp hn
    obtain ⟨k, b, t, ks, is⟩ := v
    subst hv
    obtain ⟨-, -, -, -, hi80, -, hwi⟩ := hw.inv
    have hi64 : is.length ≤ 9223372036854775806 := by unfold reach at hi80; omega
    refine AC.of_J Try.func74 rfl Try.ntmps74 rfl fun w0 A0 => ?_
    refine J.seq ?_
    refine J.region_lit ?_
    refine JL.box_agg (.tmp rfl) rfl fun b3 => ?_
    refine JL.q rfl rfl rfl (QW.assign .const) ?_
    refine JL.q rfl rfl rfl (QW.assign .const) ?_
    refine JL.q rfl rfl rfl (QW.assign .const) ?_
    refine JL.nil ?_
    refine thenQ.n ?_
    refine J.seq ?_
    refine J.block ?_
    refine J.seq ?_
    refine J.region_lit ?_
    refine JL.q rfl rfl rfl (QW.move (.tmp rfl)) ?_
    refine JL.q rfl rfl rfl (QW.gtr (.tmp rfl) .const) ?_
    refine JL.q rfl rfl rfl (QW.assign (.tmp rfl)) ?_
    refine JL.nil ?_
    refine thenQ.n ?_
    refine J.cond (.tmp rfl) (fun c1 => ?_) (fun c1 => ?_)
    · skip
      simp at c1
      refine J.seq ?_
      refine J.region_lit ?_
      refine JL.q rfl rfl rfl (QW.move (.tmp rfl)) ?_
      refine JL.q rfl rfl rfl (QW.move (.tmp rfl)) ?_
      refine JL.q rfl rfl rfl (QW.assign (.tmp rfl)) ?_
      refine JL.q rfl rfl rfl (QW.assign (.tmp rfl)) ?_
      refine JL.q rfl rfl rfl (QW.assign .const) ?_
      refine JL.nil ?_
      refine thenQ.n ?_
      refine J.ret ?_
      refine blkQ.r ?_
      refine thenQ.r ?_
      exact ⟨_, selP [.k] _, _, RetEv.three rfl (REv.tmp rfl (.refl _)) (REv.tmp rfl (.refl _)) (REv.tmp rfl (.refl _)), rfl, sel_perm [.k] _, WalkR.mk (by simp [V.chk, c1]) (fun h => by simp [V.chk, c1] at h)⟩
    · skip
      simp at c1
      refine J.seq ?_
      refine J.region_lit ?_
      refine JL.q rfl rfl rfl (QW.move (.tmp rfl)) ?_
      refine JL.q rfl rfl rfl (QW.geq (.tmp rfl) .const) ?_
      refine JL.q rfl rfl rfl (QW.assign (.tmp rfl)) ?_
      refine JL.nil ?_
      refine thenQ.n ?_
      refine J.cond (.tmp rfl) (fun c2 => ?_) (fun c2 => ?_)
      · skip
        simp at c2
        refine J.seq ?_
        refine J.region_lit ?_
        refine JL.q rfl rfl rfl (QW.move (.tmp rfl)) ?_
        refine JL.q rfl rfl rfl (QW.move (.tmp rfl)) ?_
        refine JL.q rfl rfl rfl (QW.assign (.tmp rfl)) ?_
        refine JL.q rfl rfl rfl (QW.assign (.tmp rfl)) ?_
        refine JL.q rfl rfl rfl (QW.assign .const) ?_
        refine JL.nil ?_
        refine thenQ.n ?_
        refine J.ret ?_
        refine blkQ.r ?_
        refine thenQ.r ?_
        exact ⟨_, selP [.k] _, _, RetEv.three rfl (REv.tmp rfl (.refl _)) (REv.tmp rfl (.refl _)) (REv.tmp rfl (.refl _)), rfl, sel_perm [.k] _, WalkR.mk (by simp [V.chk, show ¬ 8 < lev by omega, c2]) (fun h => by simp [V.chk, show ¬ 8 < lev by omega, c2] at h)⟩
      · skip
        simp at c2
        refine J.seq ?_
        refine J.region_lit ?_
        refine JL.q rfl rfl rfl (by first | exact QW.load_box 0 ty26 (.tmp rfl) rfl rfl rfl | exact QW.load_box 0 ty26 (.tmp rfl) rfl (take_at (V.cs_length _ _) rfl) (V.cs_length _ _)) ?_
        refine JL.q rfl rfl rfl (QW.call gofn106 (.cons (.tmp rfl) .nil) (rpart_ok Vc.mk hw)) ?_
        refine JL.q rfl rfl rfl (QW.not (.tmp rfl)) ?_
        refine JL.q rfl rfl rfl (QW.assign (.tmp rfl)) ?_
        refine JL.nil ?_
        refine thenQ.n ?_
        refine J.cond (.tmp rfl) (fun c3 => ?_) (fun c3 => ?_)
        · skip
          simp at c3
          refine J.seq ?_
          refine J.region_lit ?_
          refine JL.q rfl rfl rfl (QW.move (.tmp rfl)) ?_
          refine JL.q rfl rfl rfl (QW.move (.tmp rfl)) ?_
          refine JL.q rfl rfl rfl (QW.assign (.tmp rfl)) ?_
          refine JL.q rfl rfl rfl (QW.assign (.tmp rfl)) ?_
          refine JL.q rfl rfl rfl (QW.assign .const) ?_
          refine JL.nil ?_
          refine thenQ.n ?_
          refine J.ret ?_
          refine blkQ.r ?_
          refine thenQ.r ?_
          exact ⟨_, selP [.k] _, _, RetEv.three rfl (REv.tmp rfl (.refl _)) (REv.tmp rfl (.refl _)) (REv.tmp rfl (.refl _)), rfl, sel_perm [.k] _, WalkR.mk (by simp [V.chk, show ¬ 8 < lev by omega, show ¬ 512 ≤ p by omega, c3]) (fun h => by simp [V.chk, show ¬ 8 < lev by omega, show ¬ 512 ≤ p by omega, c3] at h)⟩
        · skip
          simp at c3
          refine J.skip ?_
          refine blkQ.n ?_
          refine thenQ.n ?_
          refine J.seq ?_
          refine J.region_lit ?_
          refine JL.q rfl rfl rfl (QW.move (.tmp rfl)) ?_
          refine JL.q rfl rfl rfl (QW.add (.tmp rfl) .const (by first | exact w64n (by first | rfl | omega | (simp; done)) (by omega) | exact w64 (by omega) | rfl)) ?_
          refine JL.q rfl rfl rfl (QW.assign (.tmp rfl)) ?_
          refine JL.nil ?_
          refine thenQ.n ?_
          refine J.seq ?_
          refine J.region_lit ?_
          refine JL.q rfl rfl rfl (QW.move (.tmp rfl)) ?_
          refine JL.q rfl rfl rfl (QW.assign (.tmp rfl)) ?_
          refine JL.nil ?_
          refine thenQ.n ?_
          refine J.seq ?_
          refine J.seq ?_
          refine J.region_lit ?_
          refine JL.q rfl rfl rfl (QW.assign .const) ?_
          refine JL.nil ?_
          refine thenQ.n ?_
          refine J.block ?_
          have hck : V.chk (.mk k b t ks is) lev p = V.chks is lev (p + 1) := by unfold V.chk; rw [if_neg (by omega), if_neg (by omega), if_neg (by simp [c3])]
          refine J.loopK (ι := Nat × Int × Int) [1, 3] (fun ⟨j, q, e⟩ => [(10, .c (.int .i64 (j : Int))), (2, .c (.int .i64 q)), (9, .c (.int .i64 e))]) (fun _ oo => oo) (fun ⟨j, q, e⟩ => j ≤ is.length ∧ V.chks is lev (p + 1) = V.chks (is.drop j) lev q ∧ max e (lev + V.depths (is.drop j)) = lev + V.depths is ∧ (0 ≤ q ∧ q ≤ 512 ∧ lev ≤ e)) (fun ⟨j, q, e⟩ => is.length - j) ⟨0, p + 1, lev⟩ (⟨Nat.zero_le _, rfl, by have := V.depths_nonneg is; rw [List.drop_zero]; omega, by omega⟩) (Wk.re (.cons rfl (.refl _) (.cons rfl (.refl _) (.cons rfl (.refl _) (.cons rfl (.refl _) (.cons rfl (.refl _) .nil))))) (Reown.refl _) (fun _ h => by first | exact h | simp [h])) ?_
          intro ⟨j, q, e⟩ ⟨hj, hcs, hde, hq⟩
          refine J.conv (by (try simp only [stepsO, List.map_cons, List.map_nil, valO, nthO, curO, mrg, List.reverse_cons, List.reverse_nil, List.nil_append, List.cons_append, List.append_nil, List.getElem?_cons_zero, List.getElem?_cons_succ, Option.map_some, Option.getD_some, List.set_cons_zero, List.set_cons_succ, AV.cellsOf, splice_zero, splice_succ, Nat.zero_add, Nat.reduceAdd]); rfl) ?_
          refine J.seq ?_
          refine J.seq ?_
          refine J.region_lit ?_
          refine JL.q rfl rfl rfl (QW.move (.tmp rfl)) ?_
          refine JL.q rfl rfl rfl (QW.field_ptr fo26_4 (.tmp rfl) rfl) ?_
          refine JL.q rfl rfl rfl (QW.load_box1 0 ty24 (.tmp rfl) rfl rfl) ?_
          refine JL.q rfl rfl rfl (by first | exact QW.len_sl sl24 (.tmp rfl) | exact QW.len_nil sl24 (.tmp rfl)) ?_
          refine JL.q rfl rfl rfl (QW.lss (.tmp rfl) (.tmp rfl)) ?_
          refine JL.nil ?_
          refine thenQ.n ?_
          refine J.cond (.tmp rfl) (fun c4 => ?_) (fun c4 => ?_)
          · skip
            have hlt : j < is.length := by simpa [V.css_length] using c4
            refine J.skip ?_
            refine thenQ.n ?_
            refine J.seq ?_
            refine J.block ?_
            refine J.seq ?_
            refine J.region_lit ?_
            refine JL.q rfl rfl rfl (QW.field_ptr fo26_4 (.tmp rfl) rfl) ?_
            refine JL.q rfl rfl rfl (QW.load_box1 0 ty24 (.tmp rfl) rfl rfl) ?_
            refine JL.q rfl rfl rfl (QW.move (.tmp rfl)) ?_
            refine JL.q rfl rfl rfl (QW.index_sl sl24 ty26 rfl (.tmp rfl) (.tmp rfl) (by first | rfl | omega | (simp; done)) (by exact V.css_getE _ hlt)) ?_
            refine JL.q rfl rfl rfl (by first | exact QW.load_ref ty26 (.tmp rfl) rfl rfl | exact QW.load_ref ty26 (.tmp rfl) (take_at0 (V.cs_length _ _) rfl) (V.cs_length _ _)) ?_
            refine JL.q rfl rfl rfl (QW.move (.tmp rfl)) ?_
            refine JL.q rfl rfl rfl (QW.add (.tmp rfl) .const (by first | exact w64n (by first | rfl | omega | (simp; done)) (by omega) | exact w64 (by omega) | rfl)) ?_
            refine JL.q rfl rfl rfl (QW.move (.tmp rfl)) ?_
            refine JL.callRF [] gofn74 rfl Lent.nil (fun _ => (.cons (.tmp rfl) (.cons (.tmp rfl) (.cons (.tmp rfl) .nil)))) (ih (by first | exact Vc.self | exact Vc.mk) (hwi _ (List.getElem_mem _)) (by omega) (by omega) (V.sz_get hn hlt)) (.inl rfl) fun x49 o49 h49 => ?_
            obtain ⟨rfl, p49, d49, rfl, hp49⟩ := h49
            have hlt : j < is.length := by simpa [V.css_length] using c4
            refine JL.q rfl rfl rfl (QW.move (.tmp rfl)) ?_
            refine JL.q rfl rfl rfl (QW.extract (.tmp rfl) rfl) ?_
            refine JL.q rfl rfl rfl (QW.extract (.tmp rfl) rfl) ?_
            refine JL.q rfl rfl rfl (QW.extract (.tmp rfl) rfl) ?_
            refine JL.q rfl rfl rfl (QW.assign (.tmp rfl)) ?_
            refine JL.q rfl rfl rfl (QW.assign (.tmp rfl)) ?_
            refine JL.q rfl rfl rfl (QW.assign (.tmp rfl)) ?_
            refine JL.nil ?_
            refine thenQ.n ?_
            refine J.seq ?_
            refine J.seq ?_
            refine J.region_lit ?_
            refine JL.q rfl rfl rfl (QW.move (.tmp rfl)) ?_
            refine JL.q rfl rfl rfl (QW.neq (.tmp rfl) .const) ?_
            refine JL.nil ?_
            refine thenQ.n ?_
            refine J.cond (.tmp rfl) (fun c5 => ?_) (fun c5 => ?_)
            · skip
              simp at c5
              refine J.seq ?_
              refine J.region_lit ?_
              refine JL.q rfl rfl rfl (QW.move (.tmp rfl)) ?_
              refine JL.q rfl rfl rfl (QW.move (.tmp rfl)) ?_
              refine JL.q rfl rfl rfl (QW.move (.tmp rfl)) ?_
              refine JL.q rfl rfl rfl (QW.assign (.tmp rfl)) ?_
              refine JL.q rfl rfl rfl (QW.assign (.tmp rfl)) ?_
              refine JL.q rfl rfl rfl (QW.assign (.tmp rfl)) ?_
              refine JL.nil ?_
              refine thenQ.n ?_
              refine J.ret ?_
              refine thenQ.r ?_
              refine blkQ.r ?_
              refine thenQ.r ?_
              refine thenQ.r ?_
              refine blkQ.r ?_
              refine thenQ.r ?_
              rw [V.chks_cons hlt, if_pos (by simpa using c5)] at hcs
              have he := hck.trans hcs
              exact ⟨_, selP [.k] _, _, RetEv.three rfl (REv.tmp rfl (.refl _)) (REv.tmp rfl (.refl _)) (REv.tmp rfl (.refl _)), rfl, sel_perm [.k] _, WalkR.mk (by rw [he]) (fun h => absurd (by rw [he] at h; exact h) c5)⟩
            · skip
              simp at c5
              refine J.skip ?_
              refine thenQ.n ?_
              refine J.region_lit ?_
              refine JL.q rfl rfl rfl (QW.move (.tmp rfl)) ?_
              refine JL.q rfl rfl rfl (QW.move (.tmp rfl)) ?_
              refine JL.q rfl rfl rfl (QW.move (.tmp rfl)) ?_
              refine JL.q rfl rfl rfl (QW.max2 (.tmp rfl) (.tmp rfl)) ?_
              refine JL.q rfl rfl rfl (QW.assign (.tmp rfl)) ?_
              refine JL.q rfl rfl rfl (QW.assign (.tmp rfl)) ?_
              refine JL.nil ?_
              refine blkQ.n ?_
              refine thenQ.n ?_
              refine J.region_lit ?_
              refine JL.q rfl rfl rfl (QW.move (.tmp rfl)) ?_
              refine JL.q rfl rfl rfl (QW.add (.tmp rfl) .const (by first | exact w64n (by first | rfl | omega | (simp; done)) (by omega) | exact w64 (by omega) | rfl)) ?_
              refine JL.q rfl rfl rfl (QW.assign (.tmp rfl)) ?_
              refine JL.nil ?_
              refine thenQ.n ?_
              have hb := V.chk_bounds is[j] (lev + 1) q
              obtain ⟨hq1, hq2⟩ := hp49 c5
              rw [V.chks_cons hlt, if_neg (by simp [c5])] at hcs
              rw [V.depths_cons hlt] at hde
              exact ⟨⟨j + 1, p49, max e d49⟩, ⟨hlt, by rw [hcs, hq1], by omega, by omega⟩, by show is.length - (j + 1) < is.length - j; omega, Wk.re (.cons rfl (.refl _) (.cons rfl (.refl _) (.cons rfl (Le.intE (by simp only [Int.max_def]; split <;> split <;> omega)) (.cons rfl (.refl _) (.cons rfl (.refl _) .nil))))) (Reown.refl _) (fun _ h => by first | exact h | simp [h])⟩
          · skip
            have hge : is.length ≤ j := by simpa [V.css_length] using c4
            refine J.exit ?_
            refine thenQ.x ?_
            refine thenQ.x ?_
            refine blkQ.hit ?_
            refine thenQ.n ?_
            refine J.seq ?_
            refine J.region_lit ?_
            refine JL.q rfl rfl rfl (QW.move (.tmp rfl)) ?_
            refine JL.q rfl rfl rfl (QW.move (.tmp rfl)) ?_
            refine JL.q rfl rfl rfl (QW.assign (.tmp rfl)) ?_
            refine JL.q rfl rfl rfl (QW.assign (.tmp rfl)) ?_
            refine JL.q rfl rfl rfl (QW.assign .const) ?_
            refine JL.nil ?_
            refine thenQ.n ?_
            refine J.ret ?_
            obtain rfl : j = is.length := by omega
            simp only [List.drop_length, V.chks, V.depths] at hcs hde
            have he := hck.trans hcs
            exact ⟨_, selP [.k] _, _, RetEv.three rfl (REv.tmp rfl (.refl _)) (REv.tmp rfl (.refl _)) (REv.tmp rfl (.refl _)), rfl, sel_perm [.k] _, WalkR.mk (by rw [he]) (fun h => ⟨by rw [he], by unfold V.depth; omega⟩)⟩

theorem rwalk_ok {v : V} {ys : List AV} {fr : Bool} {lev p : Int} (hv : Vc fr v ys) (hw : v.wf) (hl : 1 ≤ lev ∧ lev ≤ 9) (hp : 0 ≤ p ∧ p ≤ 512) :
    AC Try.prog 74 [] [.agg ys, .c (.int .i64 lev), .c (.int .i64 p)] (RetR (WalkR v lev p)) := rwalk_n _ hv hw hl hp (Nat.le_refl _)

theorem PanR.of {e e' : Int} {Rx : AV → List Own → Prop} (h : e' = e) (hn : ¬ e = 0) : PanR (e' = 0) (.iface 28 (.int .i64 e')) Rx (.pan (.iface 28 (.int .i64 e))) [] := by
  subst h; exact .pan hn
def wk (b : Nat) (p d : Int) : Own := .box b [.c (.int .i64 p), .c (.int .i64 d)]
def errV (e : Int) : Value := .iface 28 (.int .i64 e)
def WR (v : V) (lev p d : Int) (bw : Nat) : Res → List Own → Prop := PanR ((v.chk lev p).1 = 0) (errV (v.chk lev p).1) fun x o => x = .tup [] ∧ o = [wk bw (v.chk lev p).2 (max d (lev + v.depth - 1))]

theorem walk_n  : ∀ (n : Nat) {v : V} {ys : List AV} {fr : Bool} {lev p d : Int} {bw : Nat}, Vc fr v ys → v.wf → 1 ≤ lev ∧ lev ≤ 9 → 0 ≤ p ∧ p ≤ 512 → v.sz ≤ n →
    AC Try.prog 73 [wk bw p d] [.c (.pointer (some ⟨bw, 0, none⟩)), .agg ys, .c (.int .i64 lev)] (WR v lev p d bw) := by
  intro n
  induction n with
  | zero => intro v ys fr lev p d bw hv hw hl hp h; exact absurd h (by have := V.sz_pos v; omega)
  | succ n ih =>
    intro v ys fr lev p d bw hv hw hl hp hn
    obtain ⟨k, b, t, ks, is⟩ := v
    subst hv
    obtain ⟨-, -, -, -, hi80, -, hwi⟩ := hw.inv
    have hi64 : is.length ≤ 9223372036854775806 := by unfold reach at hi80; omega
    refine AC.of_J Try.func73 rfl Try.ntmps73 rfl fun w0 A0 => ?_
    refine J.seq ?_
    refine J.region_lit ?_
    refine JL.box_agg (.tmp rfl) rfl fun b4 => ?_
    refine JL.nil ?_
    refine thenQ.n ?_
    refine J.seq ?_
    refine J.block ?_
    refine J.seq ?_
    refine J.region_lit ?_
    refine JL.q rfl rfl rfl (QW.move (.tmp rfl)) ?_
    refine JL.q rfl rfl rfl (QW.gtr (.tmp rfl) .const) ?_
    refine JL.q rfl rfl rfl (QW.assign (.tmp rfl)) ?_
    refine JL.nil ?_
    refine thenQ.n ?_
    refine J.cond (.tmp rfl) (fun c1 => ?_) (fun c1 => ?_)
    · skip
      simp at c1
      refine J.region_lit ?_
      refine JL.q rfl rfl rfl (QW.mkIface ⟨_, Try.underlying28, by intro ms h; cases h⟩ .const) ?_
      refine JL.panic (.tmp rfl) ?_
      refine blkQ.p ?_
      refine thenQ.p ?_
      exact ⟨_, selP [.k, .k] _, _, rfl, rfl, sel_perm [.k, .k] _, PanR.of (by simp [V.chk, c1]) (by decide)⟩
    · skip
      simp at c1
      refine J.seq ?_
      refine J.region_lit ?_
      refine JL.q rfl rfl rfl (QW.move (.tmp rfl)) ?_
      refine JL.q rfl rfl rfl (QW.nil_ptr (.tmp rfl)) ?_
      refine JL.q rfl rfl rfl (QW.field_ptr fo127_0 (.tmp rfl) rfl) ?_
      refine JL.q rfl rfl rfl (QW.load_box1 1 ty3 (.tmp rfl) rfl rfl) ?_
      refine JL.q rfl rfl rfl (QW.eql (.tmp rfl) .const) ?_
      refine JL.q rfl rfl rfl (QW.assign (.tmp rfl)) ?_
      refine JL.nil ?_
      refine thenQ.n ?_
      refine J.cond (.tmp rfl) (fun c2 => ?_) (fun c2 => ?_)
      · skip
        simp at c2
        refine J.region_lit ?_
        refine JL.q rfl rfl rfl (QW.mkIface ⟨_, Try.underlying28, by intro ms h; cases h⟩ .const) ?_
        refine JL.panic (.tmp rfl) ?_
        refine blkQ.p ?_
        refine thenQ.p ?_
        exact ⟨_, selP [.k, .k] _, _, rfl, rfl, sel_perm [.k, .k] _, PanR.of (by simp [V.chk, show ¬ 8 < lev by omega, show 512 ≤ p by omega]) (by decide)⟩
      · skip
        simp at c2
        refine J.seq ?_
        refine J.region_lit ?_
        refine JL.q rfl rfl rfl (by first | exact QW.load_box 0 ty26 (.tmp rfl) rfl rfl rfl | exact QW.load_box 0 ty26 (.tmp rfl) rfl (take_at (V.cs_length _ _) rfl) (V.cs_length _ _)) ?_
        refine JL.q rfl rfl rfl (QW.call gofn105 (.cons (.tmp rfl) .nil) (part_ok Vc.mk hw)) ?_
        refine JL.q rfl rfl rfl (QW.not (.tmp rfl)) ?_
        refine JL.q rfl rfl rfl (QW.assign (.tmp rfl)) ?_
        refine JL.nil ?_
        refine thenQ.n ?_
        refine J.cond (.tmp rfl) (fun c3 => ?_) (fun c3 => ?_)
        · skip
          simp at c3
          refine J.region_lit ?_
          refine JL.q rfl rfl rfl (QW.mkIface ⟨_, Try.underlying28, by intro ms h; cases h⟩ .const) ?_
          refine JL.panic (.tmp rfl) ?_
          refine blkQ.p ?_
          refine thenQ.p ?_
          exact ⟨_, selP [.k, .k] _, _, rfl, rfl, sel_perm [.k, .k] _, PanR.of (by simp [V.chk, show ¬ 8 < lev by omega, show ¬ 512 ≤ p by omega, c3]) (by decide)⟩
        · skip
          simp at c3
          refine J.skip ?_
          refine blkQ.n ?_
          refine thenQ.n ?_
          refine J.seq ?_
          refine J.region_lit ?_
          refine JL.q rfl rfl rfl (QW.move (.tmp rfl)) ?_
          refine JL.q rfl rfl rfl (QW.nil_ptr (.tmp rfl)) ?_
          refine JL.q rfl rfl rfl (QW.field_ptr fo127_0 (.tmp rfl) rfl) ?_
          refine JL.q rfl rfl rfl (QW.load_box1 1 ty3 (.tmp rfl) rfl rfl) ?_
          refine JL.q rfl rfl rfl (QW.add (.tmp rfl) .const (by first | exact w64n (by first | rfl | omega | (simp; done)) (by omega) | exact w64 (by omega) | rfl)) ?_
          refine JL.q rfl rfl rfl (QW.nil_ptr (.tmp rfl)) ?_
          refine JL.q rfl rfl rfl (QW.field_ptr fo127_0 (.tmp rfl) rfl) ?_
          refine JL.store_box 1 ty3 (.tmp rfl) rfl (.tmp rfl) (by first | rfl | assumption) rfl rfl rfl rfl ?_
          refine JL.nil ?_
          refine thenQ.n ?_
          refine J.seq ?_
          refine J.region_lit ?_
          refine JL.q rfl rfl rfl (QW.move (.tmp rfl)) ?_
          refine JL.q rfl rfl rfl (QW.move (.tmp rfl)) ?_
          refine JL.q rfl rfl rfl (QW.nil_ptr (.tmp rfl)) ?_
          refine JL.q rfl rfl rfl (QW.field_ptr fo127_1 (.tmp rfl) rfl) ?_
          refine JL.q rfl rfl rfl (QW.load_box1 1 ty3 (.tmp rfl) rfl rfl) ?_
          refine JL.q rfl rfl rfl (QW.move (.tmp rfl)) ?_
          refine JL.q rfl rfl rfl (QW.max2 (.tmp rfl) (.tmp rfl)) ?_
          refine JL.q rfl rfl rfl (QW.nil_ptr (.tmp rfl)) ?_
          refine JL.q rfl rfl rfl (QW.field_ptr fo127_1 (.tmp rfl) rfl) ?_
          refine JL.store_box 1 ty3 (.tmp rfl) rfl (.tmp rfl) (by first | rfl | assumption) rfl rfl rfl rfl ?_
          refine JL.nil ?_
          refine thenQ.n ?_
          refine J.seq ?_
          refine J.region_lit ?_
          refine JL.q rfl rfl rfl (QW.field_ptr fo26_4 (.tmp rfl) rfl) ?_
          refine JL.q rfl rfl rfl (QW.load_box1 0 ty24 (.tmp rfl) rfl rfl) ?_
          refine JL.q rfl rfl rfl (by first | exact QW.len_sl sl24 (.tmp rfl) | exact QW.len_nil sl24 (.tmp rfl)) ?_
          refine JL.q rfl rfl rfl (QW.move .const) ?_
          refine JL.nil ?_
          refine thenQ.n ?_
          refine J.block ?_
          have hck : V.chk (.mk k b t ks is) lev p = V.chks is lev (p + 1) := by unfold V.chk; rw [if_neg (by omega), if_neg (by omega), if_neg (by simp [c3])]
          refine J.loopK (ι := Nat × Int × Int) [0, 2, 41, 42] (fun ⟨j, q, e⟩ => [(43, .c (.int .i64 (j : Int)))]) (fun ⟨j, q, e⟩ oo => List.set oo 1 (wk bw q e)) (fun ⟨j, q, e⟩ => j ≤ is.length ∧ V.chks is lev (p + 1) = V.chks (is.drop j) lev q ∧ max e (lev + V.depths (is.drop j)) = max d (lev + V.depths is) ∧ (0 ≤ q ∧ q ≤ 512 ∧ lev ≤ e)) (fun ⟨j, q, e⟩ => is.length - j) ⟨0, p + 1, if lev > d then lev else d⟩ (⟨Nat.zero_le _, rfl, by have := V.depths_nonneg is; rw [List.drop_zero]; split <;> omega, by split <;> omega⟩) (Wk.re (.cons rfl (.refl _) (.cons rfl (.refl _) (.cons rfl (.refl _) (.cons rfl (.refl _) (.cons rfl (.refl _) .nil))))) (Reown.refl _) (fun _ h => by first | exact h | simp [h])) ?_
          intro ⟨j, q, e⟩ ⟨hj, hcs, hde, hq⟩
          refine J.conv (by (try simp only [stepsO, List.map_cons, List.map_nil, valO, nthO, curO, mrg, List.reverse_cons, List.reverse_nil, List.nil_append, List.cons_append, List.append_nil, List.getElem?_cons_zero, List.getElem?_cons_succ, Option.map_some, Option.getD_some, List.set_cons_zero, List.set_cons_succ, AV.cellsOf, splice_zero, splice_succ, Nat.zero_add, Nat.reduceAdd]); rfl) ?_
          refine J.seq ?_
          refine J.region_lit ?_
          refine JL.q rfl rfl rfl (QW.lss (.tmp rfl) (.tmp rfl)) ?_
          refine JL.nil ?_
          refine thenQ.n ?_
          refine J.seq ?_
          refine J.cond (.tmp rfl) (fun c4 => ?_) (fun c4 => ?_)
          · skip
            have hlt : j < is.length := by simpa [V.css_length] using c4
            refine J.skip ?_
            refine thenQ.n ?_
            refine J.seq ?_
            refine J.block ?_
            refine J.seq ?_
            refine J.region_lit ?_
            refine JL.q rfl rfl rfl (QW.index_sl sl24 ty26 rfl (.tmp rfl) (.tmp rfl) (by first | rfl | omega | (simp; done)) (by exact V.css_getE _ hlt)) ?_
            refine JL.q rfl rfl rfl (by first | exact QW.load_ref ty26 (.tmp rfl) rfl rfl | exact QW.load_ref ty26 (.tmp rfl) (take_at0 (V.cs_length _ _) rfl) (V.cs_length _ _)) ?_
            refine JL.alloc z26 rfl rfl fun b7 => ?_
            first | refine JL.store_boxF 0 ty26 (.tmp rfl) rfl (.tmp rfl) (by first | rfl | assumption) (rfl) (rfl) rfl ?_ | refine JL.store_boxF 0 ty26 (.tmp rfl) rfl (.tmp rfl) (by first | rfl | assumption) (rfl) (V.cs_length _ _) rfl ?_ | refine JL.store_boxF 0 ty26 (.tmp rfl) rfl (.tmp rfl) (by first | rfl | assumption) (V.cs_length _ _) (rfl) rfl ?_ | refine JL.store_boxF 0 ty26 (.tmp rfl) rfl (.tmp rfl) (by first | rfl | assumption) (V.cs_length _ _) (V.cs_length _ _) rfl ?_ | refine JL.store_box 0 ty26 (.tmp rfl) rfl (.tmp rfl) (by first | rfl | assumption) rfl rfl rfl rfl ?_ | refine JL.store_box 0 ty26 (.tmp rfl) rfl (.tmp rfl) (by first | rfl | assumption) (V.cs_length _ _) rfl rfl rfl ?_
            refine JL.nil ?_
            refine thenQ.n ?_
            refine J.region_lit ?_
            refine JL.q rfl rfl rfl (QW.move (.tmp rfl)) ?_
            refine JL.q rfl rfl rfl (by first | exact QW.load_box 0 ty26 (.tmp rfl) rfl rfl rfl | exact QW.load_box 0 ty26 (.tmp rfl) rfl (take_at (V.cs_length _ _) rfl) (V.cs_length _ _)) ?_
            refine JL.q rfl rfl rfl (QW.move (.tmp rfl)) ?_
            refine JL.q rfl rfl rfl (QW.add (.tmp rfl) .const (by first | exact w64n (by first | rfl | omega | (simp; done)) (by omega) | exact w64 (by omega) | rfl)) ?_
            refine JL.callPF [.k, .k, .p] gofn73 rfl Lent.nil (fun _ => (.cons (.tmp rfl) (.cons (.tmp rfl) (.cons (.tmp rfl) .nil)))) (ih (by first | exact Vc.self | exact Vc.mk) (hwi _ (List.getElem_mem _)) (by omega) (by omega) (V.sz_get hn hlt)) (.inl rfl) (fun k51 x51 o51 h51 => ?_) (fun k51 => ?_)
            rotate_left
            · skip
              refine blkQ.p ?_
              refine thenQ.p ?_
              refine thenQ.p ?_
              refine blkQ.p ?_
              rw [V.chks_cons hlt, if_pos k51] at hcs
              have he := hck.trans hcs
              exact ⟨_, selP [.k, .k] _, _, rfl, rfl, sel_perm [.k, .k] _, PanR.of (by rw [he]) k51⟩
            obtain ⟨rfl, rfl⟩ := h51
            refine JL.nil ?_
            refine blkQ.n ?_
            refine thenQ.n ?_
            refine J.region_lit ?_
            refine JL.q rfl rfl rfl (QW.add (.tmp rfl) .const (by first | exact w64n (by first | rfl | omega | (simp; done)) (by omega) | exact w64 (by omega) | rfl)) ?_
            refine JL.q rfl rfl rfl (QW.move (.tmp rfl)) ?_
            refine JL.nil ?_
            refine thenQ.n ?_
            have hb := V.chk_bounds is[j] (lev + 1) q
            rw [V.chks_cons hlt, if_neg (by simp [k51])] at hcs
            rw [V.depths_cons hlt] at hde
            exact ⟨⟨j + 1, (V.chk is[j] (lev + 1) q).2, max e (lev + 1 + is[j].depth - 1)⟩, ⟨hlt, hcs, by omega, by omega⟩, by show is.length - (j + 1) < is.length - j; omega, Wk.re (.cons rfl (.refl _) (.cons rfl (.refl _) (.cons rfl (.refl _) (.cons rfl (.refl _) (.cons rfl (.refl _) .nil))))) (Reown.dropN 1 _ rfl) (fun _ h => by first | exact h | simp [h])⟩
          · skip
            have hge : is.length ≤ j := by simpa [V.css_length] using c4
            refine J.exit ?_
            refine thenQ.x ?_
            refine thenQ.x ?_
            refine blkQ.hit ?_
            obtain rfl : j = is.length := by omega
            simp only [List.drop_length, V.chks, V.depths] at hcs hde
            have he := hck.trans hcs
            exact ⟨_, selP [.k, .p] _, _, RetEv.none rfl , rfl, sel_perm [.k, .p] _, PanR.ret (by rw [he]) ⟨rfl, by rw [he]; unfold V.depth; rw [show max d (lev + (1 + V.depths is) - 1) = e by omega]; rfl⟩⟩

end Go.Proofs.Ytkiankpmkglhcaa.J

/- Walks: sizes and checks of values. -/
namespace Go.Proofs.Ytkiankpmkglhcaa.J
open Go Go.RowKit
set_option linter.unusedVariables false
set_option linter.unusedSimpArgs false
set_option maxRecDepth 10000
set_option maxHeartbeats 4000000

theorem zeroErrno (w : World) : (zeroValue 28).run Try.prog w = .ok (.int .i64 0) w := by kernel_rfl
def ibox (b : Nat) (n : Int) : Own := .box b [.c (.int .i64 n)]

theorem size1_ret (a b c : Nat) (x y z : Int) : DC Try.prog 72 [ibox c z, ibox b y, ibox a x] [.c (.pointer (some ⟨a, 0, none⟩)), .c (.pointer (some ⟨b, 0, none⟩)), .c (.pointer (some ⟨c, 0, none⟩))] .returning fun r u' o => r = .ret (.tup []) ∧ u' = .returning ∧ o = [ibox c z, ibox b y, ibox a x] := by
  refine DC.of_JD Try.func72 rfl Try.ntmps72 rfl fun w0 A0 => ?_
  refine JD.seq ?_
  refine JD.region_recover rfl rfl (.inl ⟨rfl, rfl, rfl⟩) rfl ?_
  refine JL.q rfl rfl rfl (QW.assert_nil ⟨_, Try.underlying28, by intro ms h; cases h⟩ zeroErrno (.tmp rfl)) ?_
  refine JL.q rfl rfl rfl (QW.move (.tmp rfl)) ?_
  refine JL.q rfl rfl rfl (QW.extract (.tmp rfl) rfl) ?_
  refine JL.q rfl rfl rfl (QW.extract (.tmp rfl) rfl) ?_
  refine JL.q rfl rfl rfl (QW.assign (.tmp rfl)) ?_
  refine JL.q rfl rfl rfl (QW.assign (.tmp rfl)) ?_
  refine JL.nil ?_
  refine thenD.nn ?_
  refine JD.of_J rfl ?_
  refine J.seq ?_
  refine J.region_lit ?_
  refine JL.q rfl rfl rfl (QW.move (.tmp rfl)) ?_
  refine JL.nil ?_
  refine thenQ.n ?_
  refine J.cond (.tmp rfl) (fun c1 => absurd c1 (by simp)) (fun c1 => ?_)
  refine J.skip ?_
  exact ⟨_, selP [.p, .p, .p] _, _, RetEv.none rfl , rfl, sel_perm [.p, .p, .p] _, ⟨rfl, rfl, rfl⟩⟩

theorem size1_pan (a b c : Nat) (x y z e : Int) : DC Try.prog 72 [ibox c z, ibox b y, ibox a x] [.c (.pointer (some ⟨a, 0, none⟩)), .c (.pointer (some ⟨b, 0, none⟩)), .c (.pointer (some ⟨c, 0, none⟩))] (.panicking [{ v := errV e, recovered := false }]) fun r u' o => r = .ret (.tup []) ∧ u' = .panicking [{ v := errV e, recovered := true }] ∧ o = [ibox c e, ibox b 0, ibox a 0] := by
  refine DC.of_JD Try.func72 rfl Try.ntmps72 rfl fun w0 A0 => ?_
  refine JD.seq ?_
  refine JD.region_recover rfl rfl (.inr ⟨[], rfl, rfl⟩) rfl ?_
  refine JL.q rfl rfl rfl (QW.assert_hit ⟨_, Try.underlying28, by intro ms h; cases h⟩ (.tmp rfl)) ?_
  refine JL.q rfl rfl rfl (QW.move (.tmp rfl)) ?_
  refine JL.q rfl rfl rfl (QW.extract (.tmp rfl) rfl) ?_
  refine JL.q rfl rfl rfl (QW.extract (.tmp rfl) rfl) ?_
  refine JL.q rfl rfl rfl (QW.assign (.tmp rfl)) ?_
  refine JL.q rfl rfl rfl (QW.assign (.tmp rfl)) ?_
  refine JL.nil ?_
  refine thenD.nn ?_
  refine JD.of_J rfl ?_
  refine J.seq ?_
  refine J.region_lit ?_
  refine JL.q rfl rfl rfl (QW.move (.tmp rfl)) ?_
  refine JL.nil ?_
  refine thenQ.n ?_
  refine J.cond (.tmp rfl) (fun c1 => ?_) (fun c1 => absurd c1 (by simp))
  refine J.region_lit ?_
  refine JL.q rfl rfl rfl (QW.move (.tmp rfl)) ?_
  refine JL.store_box 2 ty3 (.tmp rfl) rfl .const (by first | rfl | assumption) rfl rfl rfl rfl ?_
  refine JL.store_box 1 ty3 (.tmp rfl) rfl .const (by first | rfl | assumption) rfl rfl rfl rfl ?_
  refine JL.store_box 0 ty28 (.tmp rfl) rfl (.tmp rfl) (by first | rfl | assumption) rfl rfl rfl rfl ?_
  refine JL.nil ?_
  exact ⟨_, selP [.p, .p, .p] _, _, RetEv.none rfl , rfl, sel_perm [.p, .p, .p] _, ⟨rfl, rfl, rfl⟩⟩

def sizeAV (v : V) : AV := .tup [.c (.int .i64 (if v.err = 0 then v.cnt else 0)), .c (.int .i64 (if v.err = 0 then v.depth else 0)), .c (.int .i64 v.err)]
theorem sizeAV_ok {v : V} {n d : Int} (h : v.err = 0) (hn : n = v.cnt) (hd : d = v.depth) : sizeAV v = .tup [.c (.int .i64 n), .c (.int .i64 d), .c (.int .i64 0)] := by
  subst hn hd; simp [sizeAV, h]
theorem sizeAV_no {v : V} {e : Int} (h : ¬ v.err = 0) (he : e = v.err) : sizeAV v = .tup [.c (.int .i64 0), .c (.int .i64 0), .c (.int .i64 e)] := by
  subst he; simp [sizeAV, h]

theorem size_ok {fr : Bool} {v : V} {ys : List AV} (hv : Vc fr v ys) (hw : v.wf) : Fn Try.prog 21 [.agg ys] (sizeAV v) := by
  subst hv
  refine AC.of_JD Try.func21 rfl Try.ntmps21 rfl fun w0 A0 => ?_
  refine J.seq ?_
  refine J.region_lit ?_
  refine JL.box_agg (.tmp rfl) rfl fun b1 => ?_
  refine JL.alloc z3 rfl rfl fun b2 => ?_
  refine JL.alloc z3 rfl rfl fun b3 => ?_
  refine JL.alloc z28 rfl rfl fun b4 => ?_
  refine JL.nil ?_
  refine thenQ.n ?_
  refine J.seq ?_
  refine J.region_lit ?_
  refine JL.q rfl rfl rfl (QW.mkFunc .nil (.cons (.tmp rfl) (.cons (.tmp rfl) (.cons (.tmp rfl) .nil)))) ?_
  refine JL.defer rfl (.tmp rfl) ?_
  refine JL.nil ?_
  refine thenQ.n ?_
  refine J.seq ?_
  refine J.region_lit ?_
  refine JL.alloc z127 rfl rfl fun b5 => ?_
  refine JL.nil ?_
  refine thenQ.n ?_
  refine J.seq ?_
  refine J.region_lit ?_
  refine JL.q rfl rfl rfl (by first | exact QW.load_box 4 ty26 (.tmp rfl) rfl rfl rfl | exact QW.load_box 4 ty26 (.tmp rfl) rfl (take_at (V.cs_length _ _) rfl) (V.cs_length _ _)) ?_
  refine JL.callPF [.p] gofn73 rfl Lent.nil (fun _ => (.cons (.tmp rfl) (.cons (.tmp rfl) (.cons .const .nil)))) (walk_n _ Vc.self hw (by omega) (by omega) (Nat.le_refl _)) (.inl rfl) (fun k8 x8 o8 h8 => ?_) (fun k8 => ?_)
  rotate_left
  · skip
    refine thenQ.p ?_
    exact ⟨_, _, [], [_, _, _], selP [.p, .p, .p] _, _, rfl, rfl, gofn72, sel_perm [.p, .p, .p] _, DC.mono (size1_pan _ _ _ _ _ _ _) fun r u' o ⟨h1, h2, h3⟩ => by subst h1 h2 h3; exact ⟨⟨_, rfl⟩, rfl, _, [], _, RetEv.three rfl (REv.cell1 2 ty3 rfl rfl rfl (.refl _)) (REv.cell1 1 ty3 rfl rfl rfl (.refl _)) (REv.cell1 0 ty28 rfl rfl rfl (.refl _)), List.Perm.refl _, (congrArg Res.ret (sizeAV_no k8 rfl)).symm, rfl⟩⟩
  obtain ⟨rfl, rfl⟩ := h8
  refine JL.nil ?_
  refine thenQ.n ?_
  refine J.seq ?_
  refine J.region_outK 5 1 (fun os_ ow_ x_ o_ => match os_ with | [] => (x_ = .c undef ∧ o_ = ow_.set 3 (ibox b2 (v.chk 1 0).2)) | _ => False) mixed (by kernel_rfl) (by kernel_rfl) (by kernel_rfl) rfl ?_
  refine OutK.quiet [] rfl rfl rfl (fun qs_ qv_ ql_ => (.q rfl (QW.field_ptr fo127_0 (.tmp rfl) rfl))) ?_
  refine OutK.quiet [9] rfl rfl rfl (fun qs_ qv_ ql_ => by
      rcases qs_ with _ | ⟨⟨y0, p0⟩, qs_⟩
      · skip
        exact (.q rfl (QW.load_box1 0 ty3 (.tmp rfl) rfl rfl))
      rcases qs_ with _ | ⟨⟨y1, p1⟩, qs_⟩
      · skip
        obtain ⟨hr0, _⟩ := qv_
        obtain ⟨rfl, rfl⟩ := hr0
        exact (.q rfl (QW.load_box1 0 ty3 (.tmp rfl) rfl rfl))
      exact absurd ql_ (by simp)) ?_
  refine OutK.quiet [] rfl rfl rfl (fun qs_ qv_ ql_ => (.q rfl (QW.field_ptr fo127_1 (.tmp rfl) rfl))) ?_
  refine OutK.quiet [11] rfl rfl rfl (fun qs_ qv_ ql_ => by
      rcases qs_ with _ | ⟨⟨y0, p0⟩, qs_⟩
      · skip
        exact (.q rfl (QW.load_box1 0 ty3 (.tmp rfl) rfl rfl))
      rcases qs_ with _ | ⟨⟨y1, p1⟩, qs_⟩
      · skip
        obtain ⟨hr0, _⟩ := qv_
        obtain ⟨rfl, rfl⟩ := hr0
        exact (.q rfl (QW.load_box1 0 ty3 (.tmp rfl) rfl rfl))
      exact absurd ql_ (by simp)) ?_
  refine OutK.store [10] rfl (fun qs_ ow x o h ql_ => by
      obtain rfl : qs_ = [] := List.length_eq_zero_iff.1 (by simpa using ql_)
      exact h.1) rfl rfl rfl (fun qs_ qv_ ql_ => by
      obtain rfl : qs_ = [] := List.length_eq_zero_iff.1 ql_
      exact LStep.toR rfl (LStep.store_box 3 ty3 (.tmp rfl) rfl (.tmp rfl) (by first | rfl | assumption) rfl rfl rfl rfl) ⟨rfl, rfl⟩) ?_
  refine .nil fun qs_ qv_ ql_ => ?_
  obtain ⟨⟨y0, p0⟩, qs_, rfl⟩ : ∃ p t, qs_ = p :: t := by (cases qs_ with | nil => simp at ql_ | cons p t => exact ⟨p, t, rfl⟩)
  obtain rfl : qs_ = [] := List.length_eq_zero_iff.1 (by simpa using ql_)
  obtain ⟨hr0, _⟩ := qv_
  obtain ⟨rfl, rfl⟩ := hr0
  refine JL.conv (by (try simp only [stepsO, List.map_cons, List.map_nil, valO, nthO, curO, mrg, List.reverse_cons, List.reverse_nil, List.nil_append, List.cons_append, List.append_nil, List.getElem?_cons_zero, List.getElem?_cons_succ, Option.map_some, Option.getD_some, List.set_cons_zero, List.set_cons_succ, AV.cellsOf, splice_zero, splice_succ, Nat.zero_add, Nat.reduceAdd]); rfl) ?_
  refine JL.store_box 2 ty3 (.tmp rfl) rfl (.tmp rfl) (by first | rfl | assumption) rfl rfl rfl rfl ?_
  refine JL.store_box 1 ty28 (.tmp rfl) rfl .const (by first | rfl | assumption) rfl rfl rfl rfl ?_
  refine JL.nil ?_
  refine thenQ.n ?_
  refine J.ret ?_
  exact ⟨_, _, [], [_, _, _], selP [.k, .p, .p, .p] _, _, rfl, rfl, gofn72, sel_perm [.k, .p, .p, .p] _, DC.mono (size1_ret _ _ _ _ _ _) fun r u' o ⟨h1, h2, h3⟩ => by subst h1 h2 h3; exact ⟨⟨_, rfl⟩, rfl, _, [], _, RetEv.three rfl (REv.cell1 2 ty3 rfl rfl rfl (.refl _)) (REv.cell1 1 ty3 rfl rfl rfl (.refl _)) (REv.cell1 0 ty28 rfl rfl rfl (.refl _)), List.Perm.refl _, (congrArg Res.ret (sizeAV_ok k8 rfl (by have := V.chk_depth v 1 0 k8; omega))).symm, rfl⟩⟩

theorem check_ok {fr : Bool} {v : V} {ys : List AV} (hv : Vc fr v ys) (hw : v.wf) : Fn Try.prog 24 [.agg ys] (.c (.int .i64 v.err)) := by
  subst hv
  refine AC.of_J Try.func24 rfl Try.ntmps24 rfl fun w0 A0 => ?_
  refine J.seq ?_
  refine J.region_lit ?_
  refine JL.box_agg (.tmp rfl) rfl fun b1 => ?_
  refine JL.q rfl rfl rfl (QW.assign .const) ?_
  refine JL.nil ?_
  refine thenQ.n ?_
  refine J.seq ?_
  refine J.region_lit ?_
  refine JL.q rfl rfl rfl (by first | exact QW.load_box 0 ty26 (.tmp rfl) rfl rfl rfl | exact QW.load_box 0 ty26 (.tmp rfl) rfl (take_at (V.cs_length _ _) rfl) (V.cs_length _ _)) ?_
  refine JL.q rfl rfl rfl (QW.call gofn21 (.cons (.tmp rfl) .nil) (size_ok (by first | exact Vc.self | exact Vc.mk) (by assumption))) ?_
  refine JL.q rfl rfl rfl (QW.move (.tmp rfl)) ?_
  refine JL.q rfl rfl rfl (QW.extract (.tmp rfl) rfl) ?_
  refine JL.q rfl rfl rfl (QW.extract (.tmp rfl) rfl) ?_
  refine JL.q rfl rfl rfl (QW.extract (.tmp rfl) rfl) ?_
  refine JL.q rfl rfl rfl (QW.assign (.tmp rfl)) ?_
  refine JL.q rfl rfl rfl (QW.assign (.tmp rfl)) ?_
  refine JL.q rfl rfl rfl (QW.assign (.tmp rfl)) ?_
  refine JL.nil ?_
  refine thenQ.n ?_
  refine J.seq ?_
  refine J.region_lit ?_
  refine JL.q rfl rfl rfl (QW.move (.tmp rfl)) ?_
  refine JL.q rfl rfl rfl (QW.assign (.tmp rfl)) ?_
  refine JL.nil ?_
  refine thenQ.n ?_
  refine J.ret ?_
  exact ⟨_, selP [.k] _, _, RetEv.one rfl (REv.tmp rfl (.refl _)), rfl, sel_perm [.k] _, ⟨rfl, rfl⟩⟩

theorem rsize_ok {fr : Bool} {v : V} {ys : List AV} (hv : Vc fr v ys) (hw : v.wf) : Fn Try.prog 22 [.agg ys] (sizeAV v) := by
  subst hv
  refine AC.of_J Try.func22 rfl Try.ntmps22 rfl fun w0 A0 => ?_
  refine J.seq ?_
  refine J.region_lit ?_
  refine JL.box_agg (.tmp rfl) rfl fun b1 => ?_
  refine JL.q rfl rfl rfl (QW.assign .const) ?_
  refine JL.q rfl rfl rfl (QW.assign .const) ?_
  refine JL.q rfl rfl rfl (QW.assign .const) ?_
  refine JL.nil ?_
  refine thenQ.n ?_
  refine J.seq ?_
  refine J.region_lit ?_
  refine JL.q rfl rfl rfl (by first | exact QW.load_box 0 ty26 (.tmp rfl) rfl rfl rfl | exact QW.load_box 0 ty26 (.tmp rfl) rfl (take_at (V.cs_length _ _) rfl) (V.cs_length _ _)) ?_
  refine JL.callRF [] gofn74 rfl Lent.nil (fun _ => (.cons (.tmp rfl) (.cons .const (.cons .const .nil)))) (rwalk_ok Vc.self hw (by omega) (by omega)) (.inl rfl) fun x10 o10 h10 => ?_
  obtain ⟨rfl, p10, d10, rfl, hp10⟩ := h10
  refine JL.q rfl rfl rfl (QW.move (.tmp rfl)) ?_
  refine JL.q rfl rfl rfl (QW.extract (.tmp rfl) rfl) ?_
  refine JL.q rfl rfl rfl (QW.extract (.tmp rfl) rfl) ?_
  refine JL.q rfl rfl rfl (QW.extract (.tmp rfl) rfl) ?_
  refine JL.q rfl rfl rfl (QW.assign (.tmp rfl)) ?_
  refine JL.q rfl rfl rfl (QW.assign (.tmp rfl)) ?_
  refine JL.q rfl rfl rfl (QW.assign (.tmp rfl)) ?_
  refine JL.nil ?_
  refine thenQ.n ?_
  refine J.seq ?_
  refine J.seq ?_
  refine J.region_lit ?_
  refine JL.q rfl rfl rfl (QW.move (.tmp rfl)) ?_
  refine JL.q rfl rfl rfl (QW.neq (.tmp rfl) .const) ?_
  refine JL.nil ?_
  refine thenQ.n ?_
  refine J.cond (.tmp rfl) (fun c1 => ?_) (fun c1 => ?_)
  · skip
    simp at c1
    refine J.seq ?_
    refine J.region_lit ?_
    refine JL.q rfl rfl rfl (QW.move (.tmp rfl)) ?_
    refine JL.q rfl rfl rfl (QW.assign .const) ?_
    refine JL.q rfl rfl rfl (QW.assign .const) ?_
    refine JL.q rfl rfl rfl (QW.assign (.tmp rfl)) ?_
    refine JL.nil ?_
    refine thenQ.n ?_
    refine J.ret ?_
    refine thenQ.r ?_
    exact ⟨_, selP [.k] _, _, RetEv.three rfl (REv.tmp rfl (.refl _)) (REv.tmp rfl (.refl _)) (REv.tmp rfl (.refl _)), rfl, sel_perm [.k] _, ⟨congrArg Res.ret (sizeAV_no c1 rfl).symm, rfl⟩⟩
  · skip
    simp at c1
    refine J.skip ?_
    refine thenQ.n ?_
    refine J.seq ?_
    refine J.region_lit ?_
    refine JL.q rfl rfl rfl (QW.move (.tmp rfl)) ?_
    refine JL.q rfl rfl rfl (QW.move (.tmp rfl)) ?_
    refine JL.q rfl rfl rfl (QW.assign (.tmp rfl)) ?_
    refine JL.q rfl rfl rfl (QW.assign (.tmp rfl)) ?_
    refine JL.q rfl rfl rfl (QW.assign .const) ?_
    refine JL.nil ?_
    refine thenQ.n ?_
    refine J.ret ?_
    exact ⟨_, selP [.k] _, _, RetEv.three rfl (REv.tmp rfl (.refl _)) (REv.tmp rfl (.refl _)) (REv.tmp rfl (.refl _)), rfl, sel_perm [.k] _, ⟨congrArg Res.ret (sizeAV_ok c1 (hp10 c1).1 (by have := (hp10 c1).2; omega)).symm, rfl⟩⟩

theorem rcheck_ok {fr : Bool} {v : V} {ys : List AV} (hv : Vc fr v ys) (hw : v.wf) : Fn Try.prog 25 [.agg ys] (.c (.int .i64 v.err)) := by
  subst hv
  refine AC.of_J Try.func25 rfl Try.ntmps25 rfl fun w0 A0 => ?_
  refine J.seq ?_
  refine J.region_lit ?_
  refine JL.box_agg (.tmp rfl) rfl fun b1 => ?_
  refine JL.q rfl rfl rfl (QW.assign .const) ?_
  refine JL.nil ?_
  refine thenQ.n ?_
  refine J.seq ?_
  refine J.region_lit ?_
  refine JL.q rfl rfl rfl (by first | exact QW.load_box 0 ty26 (.tmp rfl) rfl rfl rfl | exact QW.load_box 0 ty26 (.tmp rfl) rfl (take_at (V.cs_length _ _) rfl) (V.cs_length _ _)) ?_
  refine JL.callRF [] gofn74 rfl Lent.nil (fun _ => (.cons (.tmp rfl) (.cons .const (.cons .const .nil)))) (rwalk_ok Vc.self hw (by omega) (by omega)) (.inl rfl) fun x8 o8 h8 => ?_
  obtain ⟨rfl, p8, d8, rfl, hp8⟩ := h8
  refine JL.q rfl rfl rfl (QW.move (.tmp rfl)) ?_
  refine JL.q rfl rfl rfl (QW.extract (.tmp rfl) rfl) ?_
  refine JL.q rfl rfl rfl (QW.extract (.tmp rfl) rfl) ?_
  refine JL.q rfl rfl rfl (QW.extract (.tmp rfl) rfl) ?_
  refine JL.q rfl rfl rfl (QW.assign (.tmp rfl)) ?_
  refine JL.q rfl rfl rfl (QW.assign (.tmp rfl)) ?_
  refine JL.q rfl rfl rfl (QW.assign (.tmp rfl)) ?_
  refine JL.nil ?_
  refine thenQ.n ?_
  refine J.seq ?_
  refine J.region_lit ?_
  refine JL.q rfl rfl rfl (QW.move (.tmp rfl)) ?_
  refine JL.q rfl rfl rfl (QW.assign (.tmp rfl)) ?_
  refine JL.nil ?_
  refine thenQ.n ?_
  refine J.ret ?_
  exact ⟨_, selP [.k] _, _, RetEv.one rfl (REv.tmp rfl (.refl _)), rfl, sel_perm [.k] _, ⟨rfl, rfl⟩⟩

end Go.Proofs.Ytkiankpmkglhcaa.J

/- Walks: what the statements share: are two things one; copies of values. -/
namespace Go.Proofs.Ytkiankpmkglhcaa.J
open Go Go.RowKit
set_option linter.unusedVariables false
set_option linter.unusedSimpArgs false
set_option maxRecDepth 10000
set_option maxHeartbeats 4000000

theorem list_split {α : Type} [BEq α] [LawfulBEq α] {a b : List α} (hl : a.length = b.length) {k : Nat} (h : a.take k = b.take k) (ha : k < a.length) : (a.take (k + 1) = b.take (k + 1)) ↔ a[k] = b[k]'(hl ▸ ha) := by
  have hb : k < b.length := by omega
  rw [List.take_succ_eq_append_getElem (l := a) ha, List.take_succ_eq_append_getElem (l := b) hb, h, List.append_right_inj]
  simp

theorem sameStrings_ok {fr fr2 : Bool} (a b : List Str) (ha : a.length ≤ 9223372036854775806) (hb : b.length ≤ 9223372036854775806) : Fn Try.prog 75 [.sl fr false eStr (keysAV a), .sl fr2 false eStr (keysAV b)] (.c (.bool (a == b))) := by
  refine AC.of_J Try.func75 rfl Try.ntmps75 rfl fun w0 A0 => ?_
  refine J.seq ?_
  refine J.region_lit ?_
  refine JL.q rfl rfl rfl (QW.assign .const) ?_
  refine JL.nil ?_
  refine thenQ.n ?_
  refine J.seq ?_
  refine J.seq ?_
  refine J.region_lit ?_
  refine JL.q rfl rfl rfl (QW.move (.tmp rfl)) ?_
  refine JL.q rfl rfl rfl (by first | exact QW.len_sl sl23 (.tmp rfl) | exact QW.len_nil sl23 (.tmp rfl)) ?_
  refine JL.q rfl rfl rfl (QW.move (.tmp rfl)) ?_
  refine JL.q rfl rfl rfl (by first | exact QW.len_sl sl23 (.tmp rfl) | exact QW.len_nil sl23 (.tmp rfl)) ?_
  refine JL.q rfl rfl rfl (QW.neq (.tmp rfl) (.tmp rfl)) ?_
  refine JL.nil ?_
  refine thenQ.n ?_
  refine J.cond (.tmp rfl) (fun c1 => ?_) (fun c1 => ?_)
  · skip
    simp [keysAV_length] at c1
    refine J.seq ?_
    refine J.region_lit ?_
    refine JL.q rfl rfl rfl (QW.assign .const) ?_
    refine JL.nil ?_
    refine thenQ.n ?_
    refine J.ret ?_
    refine thenQ.r ?_
    exact ⟨_, selP [] _, _, RetEv.one rfl (REv.tmp rfl (.refl _)), rfl, sel_perm [] _, ⟨ret_b (by simp; intro e; subst e; exact c1 rfl), rfl⟩⟩
  · skip
    have hl : a.length = b.length := by simp [keysAV_length] at c1; omega
    refine J.skip ?_
    refine thenQ.n ?_
    refine J.seq ?_
    refine J.seq ?_
    refine J.region_lit ?_
    refine JL.q rfl rfl rfl (QW.assign .const) ?_
    refine JL.nil ?_
    refine thenQ.n ?_
    refine J.block ?_
    refine J.loopK (ι := Nat) [0, 1] (fun k => [(5, .c (.int .i64 (k : Int)))]) (fun _ oo => oo) (fun k => k ≤ a.length ∧ a.take k = b.take k) (fun k => a.length - k) 0 (⟨Nat.zero_le _, rfl⟩) (Wk.re (.cons rfl (.refl _) (.cons rfl (.refl _) (.cons rfl (.refl _) .nil))) (Reown.refl _) (fun _ h => by first | exact h | simp [h])) ?_
    intro k ⟨hk, heqs⟩
    refine J.conv (by (try simp only [stepsO, List.map_cons, List.map_nil, valO, nthO, curO, mrg, List.reverse_cons, List.reverse_nil, List.nil_append, List.cons_append, List.append_nil, List.getElem?_cons_zero, List.getElem?_cons_succ, Option.map_some, Option.getD_some, List.set_cons_zero, List.set_cons_succ, AV.cellsOf, splice_zero, splice_succ, Nat.zero_add, Nat.reduceAdd]); rfl) ?_
    refine J.seq ?_
    refine J.seq ?_
    refine J.region_lit ?_
    refine JL.q rfl rfl rfl (QW.move (.tmp rfl)) ?_
    refine JL.q rfl rfl rfl (QW.move (.tmp rfl)) ?_
    refine JL.q rfl rfl rfl (by first | exact QW.len_sl sl23 (.tmp rfl) | exact QW.len_nil sl23 (.tmp rfl)) ?_
    refine JL.q rfl rfl rfl (QW.lss (.tmp rfl) (.tmp rfl)) ?_
    refine JL.nil ?_
    refine thenQ.n ?_
    refine J.cond (.tmp rfl) (fun c2 => ?_) (fun c2 => ?_)
    · skip
      have hlt : k < a.length := by simpa [keysAV_length] using c2
      refine J.skip ?_
      refine thenQ.n ?_
      refine J.seq ?_
      refine J.block ?_
      refine J.seq ?_
      refine J.region_tailK 8 mixed (by kernel_rfl) (by kernel_rfl) (by kernel_rfl) rfl ?_
      refine .cons [] rfl rfl rfl (.q rfl (QW.move (.tmp rfl))) ?_
      refine .cons [] rfl rfl rfl (.q rfl (QW.move (.tmp rfl))) ?_
      refine .cons [17, 18] rfl rfl rfl (.q rfl (QW.index_sl sl23 ty9 rfl (.tmp rfl) (.tmp rfl) (by first | rfl | omega | (simp; done)) (by exact keysAV_getE (by omega)))) ?_
      refine .cons [19] rfl rfl rfl (.q rfl (QW.load_ref1 ty9 (.tmp rfl) rfl)) ?_
      refine .cons [] rfl rfl rfl (.q rfl (QW.move (.tmp rfl))) ?_
      refine .cons [] rfl rfl rfl (.q rfl (QW.move (.tmp rfl))) ?_
      refine .cons [21, 22] rfl rfl rfl (.q rfl (QW.index_sl sl23 ty9 rfl (.tmp rfl) (.tmp rfl) (by first | rfl | omega | (simp; done)) (by exact keysAV_getE (by omega)))) ?_
      refine .cons [23] rfl rfl rfl (.q rfl (QW.load_ref1 ty9 (.tmp rfl) rfl)) ?_
      refine .nil ?_
      refine JL.q rfl rfl rfl (QW.neq_s (.tmp rfl) (.tmp rfl)) ?_
      refine JL.nil ?_
      refine thenQ.n ?_
      refine J.cond (.tmp rfl) (fun c3 => ?_) (fun c3 => ?_)
      · skip
        have hne : a[k] ≠ b[k] := by simpa using c3
        refine J.seq ?_
        refine J.region_lit ?_
        refine JL.q rfl rfl rfl (QW.assign .const) ?_
        refine JL.nil ?_
        refine thenQ.n ?_
        refine J.ret ?_
        refine blkQ.r ?_
        refine thenQ.r ?_
        refine thenQ.r ?_
        refine blkQ.r ?_
        refine thenQ.r ?_
        exact ⟨_, selP [] _, _, RetEv.one rfl (REv.tmp rfl (.refl _)), rfl, sel_perm [] _, ⟨ret_b (by simp; intro e; subst e; exact hne rfl), rfl⟩⟩
      · skip
        have heq : a[k] = b[k] := by simpa using c3
        refine J.skip ?_
        refine blkQ.n ?_
        refine thenQ.n ?_
        refine J.region_lit ?_
        refine JL.q rfl rfl rfl (QW.move (.tmp rfl)) ?_
        refine JL.q rfl rfl rfl (QW.add (.tmp rfl) .const (by first | exact w64n (by first | rfl | omega | (simp; done)) (by omega) | exact w64 (by omega) | rfl)) ?_
        refine JL.q rfl rfl rfl (QW.assign (.tmp rfl)) ?_
        refine JL.nil ?_
        refine thenQ.n ?_
        exact ⟨k + 1, ⟨hlt, (list_split hl heqs hlt).2 heq⟩, by omega, Wk.re (.cons rfl (.refl _) (.cons rfl (.refl _) (.cons rfl (.refl _) .nil))) (Reown.refl _) (fun _ h => by first | exact h | simp [h])⟩
    · skip
      have hge : a.length ≤ k := by simpa [keysAV_length] using c2
      refine J.exit ?_
      refine thenQ.x ?_
      refine thenQ.x ?_
      refine blkQ.hit ?_
      refine thenQ.n ?_
      refine J.seq ?_
      refine J.region_lit ?_
      refine JL.q rfl rfl rfl (QW.assign .const) ?_
      refine JL.nil ?_
      refine thenQ.n ?_
      refine J.ret ?_
      exact ⟨_, selP [] _, _, RetEv.one rfl (REv.tmp rfl (.refl _)), rfl, sel_perm [] _, ⟨ret_b (by simp; rw [List.take_of_length_le hge, List.take_of_length_le (by omega)] at heqs; exact heqs), rfl⟩⟩

theorem sameBytes_ok {fr fr2 c c2 : Bool} (a b : List UInt8) : Fn Try.prog 71 [.sl fr c eU8 (bytesAV a), .sl fr2 c2 eU8 (bytesAV b)] (.c (.bool (a == b))) := by
  refine AC.of_J Try.func71 rfl Try.ntmps71 rfl fun w0 A0 => ?_
  refine J.seq ?_
  refine J.region_lit ?_
  refine JL.q rfl rfl rfl (QW.assign .const) ?_
  refine JL.nil ?_
  refine thenQ.n ?_
  refine J.seq ?_
  refine J.region_lit ?_
  refine JL.q rfl rfl rfl (QW.move (.tmp rfl)) ?_
  refine JL.q rfl rfl rfl (QW.bytes_str sl121 st9 iu5 (.tmp rfl)) ?_
  refine JL.q rfl rfl rfl (QW.move (.tmp rfl)) ?_
  refine JL.q rfl rfl rfl (QW.bytes_str sl121 st9 iu5 (.tmp rfl)) ?_
  refine JL.q rfl rfl rfl (QW.eql_s (.tmp rfl) (.tmp rfl)) ?_
  refine JL.q rfl rfl rfl (QW.assign (.tmp rfl)) ?_
  refine JL.nil ?_
  refine thenQ.n ?_
  refine J.ret ?_
  exact ⟨_, selP [] _, _, RetEv.one rfl (REv.tmp rfl (.refl _)), rfl, sel_perm [] _, ⟨rfl, rfl⟩⟩

theorem sames_drop {a b : List V} {k : Nat} (ha : k < a.length) (hb : k < b.length) : V.sames (a.drop k) (b.drop k) = (a[k].same b[k] && V.sames (a.drop (k + 1)) (b.drop (k + 1))) := by
  rw [List.drop_eq_getElem_cons ha, List.drop_eq_getElem_cons hb, V.sames]
theorem sames_len : ∀ {a b : List V}, V.sames a b = true → a.length = b.length
  | [], [], _ => rfl
  | x :: r, y :: s, h => by simp only [V.sames, Bool.and_eq_true] at h; simp [sames_len h.2]
  | [], _ :: _, h => by simp [V.sames] at h
  | _ :: _, [], h => by simp [V.sames] at h

theorem sameValue_n  : ∀ (n : Nat) {v u : V} {ys zs : List AV} {fr fr2 : Bool}, Vc fr v ys → Vc fr2 u zs → v.wf → u.wf → v.sz ≤ n →
    Fn Try.prog 26 [.agg ys, .agg zs] (.c (.bool (v.same u))) := by
  intro n
  induction n with
  | zero => intro v u ys zs fr fr2 hv hu hw hw2 h; exact absurd h (by have := V.sz_pos v; omega)
  | succ n ih =>
    intro v u ys zs fr fr2 hv hu hw hw2 hn
    obtain ⟨k, b, t, ks, is⟩ := v
    obtain ⟨k', b', t', ks', is'⟩ := u
    subst hv hu
    obtain ⟨-, -, -, hk16, hi80, -, hwi⟩ := hw.inv
    obtain ⟨-, -, -, hk16', hi80', -, hwi'⟩ := hw2.inv
    have h1 : is.length ≤ 9223372036854775806 := by unfold reach at hi80; omega
    have h2 : is'.length ≤ 9223372036854775806 := by unfold reach at hi80'; omega
    have h3 : ks.length ≤ 9223372036854775806 := by unfold reach at hk16; omega
    have h4 : ks'.length ≤ 9223372036854775806 := by unfold reach at hk16'; omega
    refine AC.of_J Try.func26 rfl Try.ntmps26 rfl fun w0 A0 => ?_
    refine J.seq ?_
    refine J.region_lit ?_
    refine JL.box_agg (.tmp rfl) rfl fun b2 => ?_
    refine JL.box_agg (.tmp rfl) rfl fun b3 => ?_
    refine JL.q rfl rfl rfl (QW.assign .const) ?_
    refine JL.nil ?_
    refine thenQ.n ?_
    refine J.seq ?_
    refine J.seq ?_
    refine J.region_lit ?_
    refine JL.q rfl rfl rfl (QW.field_ptr fo26_0 (.tmp rfl) rfl) ?_
    refine JL.q rfl rfl rfl (QW.load_box1 1 ty3 (.tmp rfl) rfl rfl) ?_
    refine JL.q rfl rfl rfl (QW.field_ptr fo26_0 (.tmp rfl) rfl) ?_
    refine JL.q rfl rfl rfl (QW.load_box1 0 ty3 (.tmp rfl) rfl rfl) ?_
    refine JL.q rfl rfl rfl (QW.neq (.tmp rfl) (.tmp rfl)) ?_
    refine JL.q rfl rfl rfl (QW.move (.tmp rfl)) ?_
    refine JL.g rfl rfl rfl rfl rfl (fun hg => (QW.field_ptr fo26_1 (.tmp rfl) rfl)) ?_
    refine JL.g rfl rfl rfl rfl rfl (fun hg => (QW.load_box1 1 ty22 (.when rfl hg) rfl rfl)) ?_
    refine JL.g rfl rfl rfl rfl rfl (fun hg => (QW.field_ptr fo26_1 (.tmp rfl) rfl)) ?_
    refine JL.g rfl rfl rfl rfl rfl (fun hg => (QW.load_box1 0 ty22 (.when rfl hg) rfl rfl)) ?_
    refine JL.g rfl rfl rfl rfl rfl (fun hg => (QW.neq (.when rfl hg) (.when rfl hg))) ?_
    refine JL.q rfl rfl rfl (QW.pick_or (.tmp rfl) (.tmp rfl)) ?_
    refine JL.q rfl rfl rfl (QW.move (.tmp rfl)) ?_
    refine JL.g rfl rfl rfl rfl rfl (fun hg => (QW.field_ptr fo26_2 (.tmp rfl) rfl)) ?_
    refine JL.g rfl rfl rfl rfl rfl (fun hg => (QW.load_box1 1 ty9 (.when rfl hg) rfl rfl)) ?_
    refine JL.g rfl rfl rfl rfl rfl (fun hg => (QW.field_ptr fo26_2 (.tmp rfl) rfl)) ?_
    refine JL.g rfl rfl rfl rfl rfl (fun hg => (QW.load_box1 0 ty9 (.when rfl hg) rfl rfl)) ?_
    refine JL.g rfl rfl rfl rfl rfl (fun hg => (QW.neq_s (.when rfl hg) (.when rfl hg))) ?_
    refine JL.q rfl rfl rfl (QW.pick_or (.tmp rfl) (.tmp rfl)) ?_
    refine JL.q rfl rfl rfl (QW.move (.tmp rfl)) ?_
    refine JL.g rfl rfl rfl rfl rfl (fun hg => (QW.field_ptr fo26_3 (.tmp rfl) rfl)) ?_
    refine JL.g rfl rfl rfl rfl rfl (fun hg => (QW.load_box1 1 ty23 (.when rfl hg) rfl rfl)) ?_
    refine JL.g rfl rfl rfl rfl rfl (fun hg => (QW.field_ptr fo26_3 (.tmp rfl) rfl)) ?_
    refine JL.g rfl rfl rfl rfl rfl (fun hg => (QW.load_box1 0 ty23 (.when rfl hg) rfl rfl)) ?_
    refine JL.g rfl rfl rfl rfl rfl (fun hg => (QW.call gofn75 (.cons (.when rfl hg) (.cons (.when rfl hg) .nil)) (sameStrings_ok _ _ h3 h4))) ?_
    refine JL.g rfl rfl rfl rfl rfl (fun hg => (QW.not (.when rfl hg))) ?_
    refine JL.q rfl rfl rfl (QW.pick_or (.tmp rfl) (.tmp rfl)) ?_
    refine JL.q rfl rfl rfl (QW.move (.tmp rfl)) ?_
    refine JL.g rfl rfl rfl rfl rfl (fun hg => (QW.field_ptr fo26_4 (.tmp rfl) rfl)) ?_
    refine JL.g rfl rfl rfl rfl rfl (fun hg => (QW.load_box1 1 ty24 (.when rfl hg) rfl rfl)) ?_
    refine JL.g rfl rfl rfl rfl rfl (fun hg => (by first | exact QW.len_sl sl24 (.when rfl hg) | exact QW.len_nil sl24 (.when rfl hg))) ?_
    refine JL.g rfl rfl rfl rfl rfl (fun hg => (QW.field_ptr fo26_4 (.tmp rfl) rfl)) ?_
    refine JL.g rfl rfl rfl rfl rfl (fun hg => (QW.load_box1 0 ty24 (.when rfl hg) rfl rfl)) ?_
    refine JL.g rfl rfl rfl rfl rfl (fun hg => (by first | exact QW.len_sl sl24 (.when rfl hg) | exact QW.len_nil sl24 (.when rfl hg))) ?_
    refine JL.g rfl rfl rfl rfl rfl (fun hg => (QW.neq (.when rfl hg) (.when rfl hg))) ?_
    refine JL.q rfl rfl rfl (QW.pick_or (.tmp rfl) (.tmp rfl)) ?_
    refine JL.nil ?_
    refine thenQ.n ?_
    refine J.cond (.tmp rfl) (fun c1 => ?_) (fun c1 => ?_)
    · skip
      simp [V.css_length] at c1
      refine J.seq ?_
      refine J.region_lit ?_
      refine JL.q rfl rfl rfl (QW.assign .const) ?_
      refine JL.nil ?_
      refine thenQ.n ?_
      refine J.ret ?_
      refine thenQ.r ?_
      exact ⟨_, selP [.k, .k] _, _, RetEv.one rfl (REv.tmp rfl (.refl _)), rfl, sel_perm [.k, .k] _, ⟨ret_b (by simp [V.same]; intro e1 e2 e3 e4; subst e1 e2 e3 e4; cases hs : V.sames is is' with | false => rfl | true => have := sames_len hs; simp at c1; omega), rfl⟩⟩
    · skip
      simp [V.css_length] at c1
      obtain ⟨⟨⟨⟨e1, e2⟩, e3⟩, e4⟩, e5⟩ := c1
      have hl : is.length = is'.length := by omega
      refine J.skip ?_
      refine thenQ.n ?_
      refine J.seq ?_
      refine J.seq ?_
      refine J.region_lit ?_
      refine JL.q rfl rfl rfl (QW.assign .const) ?_
      refine JL.nil ?_
      refine thenQ.n ?_
      refine J.block ?_
      refine J.loopK (ι := Nat) [2, 3] (fun j => [(5, .c (.int .i64 (j : Int)))]) (fun _ oo => oo) (fun j => j ≤ is.length ∧ V.sames is is' = V.sames (is.drop j) (is'.drop j)) (fun j => is.length - j) 0 (⟨Nat.zero_le _, rfl⟩) (Wk.re (.cons rfl (.refl _) (.cons rfl (.refl _) (.cons rfl (.refl _) .nil))) (Reown.refl _) (fun _ h => by first | exact h | simp [h])) ?_
      intro j ⟨hj, hs⟩
      refine J.conv (by (try simp only [stepsO, List.map_cons, List.map_nil, valO, nthO, curO, mrg, List.reverse_cons, List.reverse_nil, List.nil_append, List.cons_append, List.append_nil, List.getElem?_cons_zero, List.getElem?_cons_succ, Option.map_some, Option.getD_some, List.set_cons_zero, List.set_cons_succ, AV.cellsOf, splice_zero, splice_succ, Nat.zero_add, Nat.reduceAdd]); rfl) ?_
      refine J.seq ?_
      refine J.seq ?_
      refine J.region_lit ?_
      refine JL.q rfl rfl rfl (QW.move (.tmp rfl)) ?_
      refine JL.q rfl rfl rfl (QW.field_ptr fo26_4 (.tmp rfl) rfl) ?_
      refine JL.q rfl rfl rfl (QW.load_box1 1 ty24 (.tmp rfl) rfl rfl) ?_
      refine JL.q rfl rfl rfl (by first | exact QW.len_sl sl24 (.tmp rfl) | exact QW.len_nil sl24 (.tmp rfl)) ?_
      refine JL.q rfl rfl rfl (QW.lss (.tmp rfl) (.tmp rfl)) ?_
      refine JL.nil ?_
      refine thenQ.n ?_
      refine J.cond (.tmp rfl) (fun c2 => ?_) (fun c2 => ?_)
      · skip
        have hlt : j < is.length := by simpa [V.css_length] using c2
        have hlt2 : j < is'.length := by omega
        refine J.skip ?_
        refine thenQ.n ?_
        refine J.seq ?_
        refine J.block ?_
        refine J.seq ?_
        refine J.region_tailK 10 mixed (by kernel_rfl) (by kernel_rfl) (by kernel_rfl) rfl ?_
        refine .cons [] rfl rfl rfl (.q rfl (QW.field_ptr fo26_4 (.tmp rfl) rfl)) ?_
        refine .cons [49] rfl rfl rfl (.q rfl (QW.load_box1 1 ty24 (.tmp rfl) rfl rfl)) ?_
        refine .cons [] rfl rfl rfl (.q rfl (QW.move (.tmp rfl))) ?_
        refine .cons [50, 51] rfl rfl rfl (.q rfl (QW.index_sl sl24 ty26 rfl (.tmp rfl) (.tmp rfl) (by first | rfl | omega | (simp; done)) (by first | exact V.css_getE _ hlt | exact V.css_getE _ hlt2))) ?_
        refine .cons [52] rfl rfl rfl (.q rfl (by first | exact QW.load_ref ty26 (.tmp rfl) rfl rfl | exact QW.load_ref ty26 (.tmp rfl) (take_at0 (V.cs_length _ _) rfl) (V.cs_length _ _))) ?_
        refine .cons [] rfl rfl rfl (.q rfl (QW.field_ptr fo26_4 (.tmp rfl) rfl)) ?_
        refine .cons [54] rfl rfl rfl (.q rfl (QW.load_box1 0 ty24 (.tmp rfl) rfl rfl)) ?_
        refine .cons [] rfl rfl rfl (.q rfl (QW.move (.tmp rfl))) ?_
        refine .cons [55, 56] rfl rfl rfl (.q rfl (QW.index_sl sl24 ty26 rfl (.tmp rfl) (.tmp rfl) (by first | rfl | omega | (simp; done)) (by first | exact V.css_getE _ hlt | exact V.css_getE _ hlt2))) ?_
        refine .cons [57] rfl rfl rfl (.q rfl (by first | exact QW.load_ref ty26 (.tmp rfl) rfl rfl | exact QW.load_ref ty26 (.tmp rfl) (take_at0 (V.cs_length _ _) rfl) (V.cs_length _ _))) ?_
        refine .nil ?_
        refine JL.q rfl rfl rfl (QW.call gofn26 (.cons (.tmp rfl) (.cons (.tmp rfl) .nil)) (ih Vc.self Vc.self (hwi _ (List.getElem_mem _)) (hwi' _ (List.getElem_mem _)) (V.sz_get hn hlt))) ?_
        refine JL.q rfl rfl rfl (QW.not (.tmp rfl)) ?_
        refine JL.nil ?_
        refine thenQ.n ?_
        refine J.cond (.tmp rfl) (fun c3 => ?_) (fun c3 => ?_)
        · skip
          simp at c3
          refine J.seq ?_
          refine J.region_lit ?_
          refine JL.q rfl rfl rfl (QW.assign .const) ?_
          refine JL.nil ?_
          refine thenQ.n ?_
          refine J.ret ?_
          refine blkQ.r ?_
          refine thenQ.r ?_
          refine thenQ.r ?_
          refine blkQ.r ?_
          refine thenQ.r ?_
          exact ⟨_, selP [.k, .k] _, _, RetEv.one rfl (REv.tmp rfl (.refl _)), rfl, sel_perm [.k, .k] _, ⟨ret_b (by rw [sames_drop hlt hlt2, c3] at hs; simp [V.same, hs]), rfl⟩⟩
        · skip
          simp at c3
          refine J.skip ?_
          refine blkQ.n ?_
          refine thenQ.n ?_
          refine J.region_lit ?_
          refine JL.q rfl rfl rfl (QW.move (.tmp rfl)) ?_
          refine JL.q rfl rfl rfl (QW.add (.tmp rfl) .const (by first | exact w64n (by first | rfl | omega | (simp; done)) (by omega) | exact w64 (by omega) | rfl)) ?_
          refine JL.q rfl rfl rfl (QW.assign (.tmp rfl)) ?_
          refine JL.nil ?_
          refine thenQ.n ?_
          rw [sames_drop hlt hlt2, c3, Bool.true_and] at hs
          exact ⟨j + 1, ⟨hlt, hs⟩, by omega, Wk.re (.cons rfl (.refl _) (.cons rfl (.refl _) (.cons rfl (.refl _) .nil))) (Reown.refl _) (fun _ h => by first | exact h | simp [h])⟩
      · skip
        have hge : is.length ≤ j := by simpa [V.css_length] using c2
        refine J.exit ?_
        refine thenQ.x ?_
        refine thenQ.x ?_
        refine blkQ.hit ?_
        refine thenQ.n ?_
        refine J.seq ?_
        refine J.region_lit ?_
        refine JL.q rfl rfl rfl (QW.assign .const) ?_
        refine JL.nil ?_
        refine thenQ.n ?_
        refine J.ret ?_
        have hz : V.sames is is' = true := by
          rw [hs, List.drop_of_length_le hge, List.drop_of_length_le (by omega), V.sames]
        exact ⟨_, selP [.k, .k] _, _, RetEv.one rfl (REv.tmp rfl (.refl _)), rfl, sel_perm [.k, .k] _, ⟨ret_b (by simp [V.same, hz, e3, e4]; omega), rfl⟩⟩

theorem copyValue_n  : ∀ (n : Nat) {v : V} {ys : List AV} {fr : Bool}, Vc fr v ys → v.wf → v.sz ≤ n → AC Try.prog 20 [] [.agg ys] (RetR (CopyR v)) := by
  intro n
  induction n with
  | zero => intro v ys fr hv hw h; exact absurd h (by have := V.sz_pos v; omega)
  | succ n ih =>
    intro v ys fr hv hw hn
    obtain ⟨k, b, t, ks, is⟩ := v
    subst hv
    obtain ⟨-, -, -, hk16, hi80, -, hwi⟩ := hw.inv
    have h1 : is.length ≤ 9223372036854775806 := by unfold reach at hi80; omega
    refine AC.of_J Try.func20 rfl Try.ntmps20 rfl fun w0 A0 => ?_
    refine J.seq ?_
    refine J.region_lit ?_
    refine JL.box_agg (.tmp rfl) rfl fun b1 => ?_
    refine JL.alloc z26 rfl rfl fun b2 => ?_
    refine JL.nil ?_
    refine thenQ.n ?_
    refine J.seq ?_
    refine J.region_lit ?_
    refine JL.q rfl rfl rfl (QW.assign .const) ?_
    refine JL.nil ?_
    refine thenQ.n ?_
    refine J.seq ?_
    refine J.region_lit ?_
    refine JL.q rfl rfl rfl (QW.assign .const) ?_
    refine JL.nil ?_
    refine thenQ.n ?_
    refine J.seq ?_
    refine J.seq ?_
    refine J.region_lit ?_
    refine JL.q rfl rfl rfl (QW.assign .const) ?_
    refine JL.nil ?_
    refine thenQ.n ?_
    refine J.block ?_
    refine J.reown (Reown.nilArrE eV _) ?_
    refine J.reown (Reown.nilGrpE _) ?_
    refine J.loopK (ι := Nat × Value × List (List AV) × List Value × Own) [1, 2, 3] (fun ⟨j, v, cs, us, o⟩ => [(5, .c (.int .i64 (j : Int))), (4, .c v)]) (fun ⟨j, v, cs, us, o⟩ oo => List.set (List.set oo 2 (.arr v eV cs)) 3 (o)) (fun ⟨j, v, cs, us, o⟩ => j ≤ is.length ∧ KidsTr (is.take j) cs us o) (fun ⟨j, v, cs, us, o⟩ => is.length - j) ⟨0, .slice none 0 0, [], [], .grp []⟩ (⟨Nat.zero_le _, .nil⟩) (Wk.re (.cons rfl (.refl _) (.cons rfl (.refl _) (.cons rfl (.refl _) (.cons rfl (.refl _) (.cons rfl (.refl _) .nil))))) (Reown.refl _) (fun _ h => by first | exact h | simp [h])) ?_
    intro ⟨j, v, cs, us, o⟩ ⟨hj, hK⟩
    refine J.conv (by (try simp only [stepsO, List.map_cons, List.map_nil, valO, nthO, curO, mrg, List.reverse_cons, List.reverse_nil, List.nil_append, List.cons_append, List.append_nil, List.getElem?_cons_zero, List.getElem?_cons_succ, Option.map_some, Option.getD_some, List.set_cons_zero, List.set_cons_succ, AV.cellsOf, splice_zero, splice_succ, Nat.zero_add, Nat.reduceAdd]); rfl) ?_
    refine J.seq ?_
    refine J.seq ?_
    refine J.region_lit ?_
    refine JL.q rfl rfl rfl (QW.move (.tmp rfl)) ?_
    refine JL.q rfl rfl rfl (QW.field_ptr fo26_4 (.tmp rfl) rfl) ?_
    refine JL.q rfl rfl rfl (QW.load_box1 1 ty24 (.tmp rfl) rfl rfl) ?_
    refine JL.q rfl rfl rfl (by first | exact QW.len_sl sl24 (.tmp rfl) | exact QW.len_nil sl24 (.tmp rfl)) ?_
    refine JL.q rfl rfl rfl (QW.lss (.tmp rfl) (.tmp rfl)) ?_
    refine JL.nil ?_
    refine thenQ.n ?_
    refine J.cond (.tmp rfl) (fun c1 => ?_) (fun c1 => ?_)
    · skip
      have hlt : j < is.length := by simpa [V.css_length] using c1
      refine J.skip ?_
      refine thenQ.n ?_
      refine J.seq ?_
      refine J.block ?_
      refine J.region_lit ?_
      refine JL.q rfl rfl rfl (QW.move (.tmp rfl)) ?_
      refine JL.q rfl rfl rfl (QW.field_ptr fo26_4 (.tmp rfl) rfl) ?_
      refine JL.q rfl rfl rfl (QW.load_box1 1 ty24 (.tmp rfl) rfl rfl) ?_
      refine JL.q rfl rfl rfl (QW.move (.tmp rfl)) ?_
      refine JL.q rfl rfl rfl (QW.index_sl sl24 ty26 rfl (.tmp rfl) (.tmp rfl) (by first | rfl | omega | (simp; done)) (by exact V.css_getE _ hlt)) ?_
      refine JL.q rfl rfl rfl (by first | exact QW.load_ref ty26 (.tmp rfl) rfl rfl | exact QW.load_ref ty26 (.tmp rfl) (take_at0 (V.cs_length _ _) rfl) (V.cs_length _ _)) ?_
      refine JL.callRF [] gofn20 rfl Lent.nil (fun _ => (.cons (.tmp rfl) .nil)) (ih Vc.self (hwi _ (List.getElem_mem _)) (V.sz_get hn hlt)) (.inl rfl) fun x19 o19 h19 => ?_
      obtain ⟨kv19, iv19, ok19, oi19, rfl, rfl, hV19⟩ := h19
      refine JL.q rfl rfl rfl (QW.buildSlice (idx := [0]) (xs := [is[j].raw kv19 iv19]) sl24 el26 z26 rfl (.cons (.tmp rfl) .nil) rfl rfl rfl rfl rfl rfl rfl rfl rfl) ?_
      refine JL.append 2 sl24 el26 rfl (.tmp rfl) rfl (srcA_sl sl24 (.tmp rfl)) (by have := hK.h2; rw [List.length_take] at this; simp; unfold reach at *; omega) rfl fun v21 => ?_
      refine JL.q rfl rfl rfl (QW.assign (.tmp rfl)) ?_
      refine JL.nil ?_
      refine blkQ.n ?_
      refine thenQ.n ?_
      refine J.region_lit ?_
      refine JL.q rfl rfl rfl (QW.move (.tmp rfl)) ?_
      refine JL.q rfl rfl rfl (QW.add (.tmp rfl) .const (by first | exact w64n (by first | rfl | omega | (simp; done)) (by omega) | exact w64 (by omega) | rfl)) ?_
      refine JL.q rfl rfl rfl (QW.assign (.tmp rfl)) ?_
      refine JL.nil ?_
      refine thenQ.n ?_
      exact ⟨⟨j + 1, _, _, _, _⟩, ⟨hlt, by rw [List.take_succ_eq_append_getElem hlt]; exact hK.snoc hV19⟩, by show is.length - (j + 1) < is.length - j; omega, Wk.re (.cons rfl (.refl _) (.cons rfl (.refl _) (.cons rfl (.refl _) (.cons rfl (.refl _) (.cons rfl (.refl _) .nil))))) ((Reown.cons (Reown.cons (Reown.cons (Reown.tri _ _ _ _))))) (fun _ h => by first | exact h | simp [h])⟩
    · skip
      have hge : is.length ≤ j := by simpa [V.css_length] using c1
      refine J.exit ?_
      refine thenQ.x ?_
      refine thenQ.x ?_
      refine blkQ.hit ?_
      refine thenQ.n ?_
      refine J.seq ?_
      refine J.reown (Reown.nilArrE eStr _) ?_
      refine J.region_lit ?_
      refine JL.q rfl rfl rfl (QW.move (.tmp rfl)) ?_
      refine JL.q rfl rfl rfl (QW.field_ptr fo26_3 (.tmp rfl) rfl) ?_
      refine JL.q rfl rfl rfl (QW.load_box1 1 ty23 (.tmp rfl) rfl rfl) ?_
      refine JL.append 4 sl23 el9 rfl (.tmp rfl) rfl (srcA_sl sl23 (.tmp rfl)) (by rw [keysAV_length]; simpa using hk16) rfl fun v25 => ?_
      refine JL.q rfl rfl rfl (QW.move (.tmp rfl)) ?_
      refine JL.q rfl rfl rfl (QW.field_ptr fo26_3 (.tmp rfl) rfl) ?_
      refine JL.isSlice 4 rfl fun hs2 => ?_
      refine JL.isSlice 2 rfl fun hs1 => ?_
      refine JL.store_box 1 ty23 (.tmp rfl) rfl (.tmp rfl) (by first | rfl | assumption) rfl rfl rfl rfl ?_
      refine JL.q rfl rfl rfl (QW.field_ptr fo26_4 (.tmp rfl) rfl) ?_
      refine JL.store_box 1 ty24 (.tmp rfl) rfl (.tmp rfl) (by first | rfl | assumption) rfl rfl rfl rfl ?_
      refine JL.nil ?_
      refine thenQ.n ?_
      refine J.seq ?_
      refine J.reown (Reown.cons (Reown.cons (Reown.rot3g _ _ _ _))) ?_
      refine J.region_lit ?_
      refine JL.q rfl rfl rfl (by first | exact QW.load_box 1 ty26 (.tmp rfl) rfl rfl rfl | exact QW.load_box 1 ty26 (.tmp rfl) rfl (take_at (V.cs_length _ _) rfl) (V.cs_length _ _)) ?_
      first | refine JL.store_boxF 0 ty26 (.tmp rfl) rfl (.tmp rfl) (by first | rfl | assumption) (rfl) (rfl) rfl ?_ | refine JL.store_boxF 0 ty26 (.tmp rfl) rfl (.tmp rfl) (by first | rfl | assumption) (rfl) (V.cs_length _ _) rfl ?_ | refine JL.store_boxF 0 ty26 (.tmp rfl) rfl (.tmp rfl) (by first | rfl | assumption) (V.cs_length _ _) (rfl) rfl ?_ | refine JL.store_boxF 0 ty26 (.tmp rfl) rfl (.tmp rfl) (by first | rfl | assumption) (V.cs_length _ _) (V.cs_length _ _) rfl ?_ | refine JL.store_box 0 ty26 (.tmp rfl) rfl (.tmp rfl) (by first | rfl | assumption) rfl rfl rfl rfl ?_ | refine JL.store_box 0 ty26 (.tmp rfl) rfl (.tmp rfl) (by first | rfl | assumption) (V.cs_length _ _) rfl rfl rfl ?_
      refine JL.nil ?_
      refine thenQ.n ?_
      refine J.ret ?_
      obtain rfl : j = is.length := by omega
      rw [List.take_length] at hK
      exact ⟨_, selP [.k, .k, .p, .p] _, _, RetEv.one rfl (by first | exact REv.cell 0 ty26 rfl rfl rfl rfl (.refl _) | exact REv.cell 0 ty26 rfl rfl (take_at (V.cs_length _ _) rfl) (V.cs_length _ _) (.refl _)), rfl, sel_perm [.k, .k, .p, .p] _, ⟨_, rfl, _, _, _, _, rfl, rfl, hs2, hs1, keys_tr hk16, hK.tr hi80⟩⟩

end Go.Proofs.Ytkiankpmkglhcaa.J

/- Walks: the page's copy of a value; the program's; lists that are copied. -/
namespace Go.Proofs.Ytkiankpmkglhcaa.J
open Go Go.RowKit
set_option linter.unusedVariables false
set_option linter.unusedSimpArgs false
set_option maxRecDepth 10000
set_option maxHeartbeats 4000000

theorem copyValue_ok {v : V} {ys : List AV} {fr : Bool} (hv : Vc fr v ys) (hw : v.wf) : AC Try.prog 20 [] [.agg ys] (RetR (CopyR v)) := copyValue_n _ hv hw (Nat.le_refl _)
theorem copyValue_rd {v : V} {ys : List AV} {fr : Bool} (hv : Vc fr v ys) (hw : v.wf) : Fn Try.prog 20 [.agg ys] (.agg (v.cs true)) := .ofCopy (copyValue_ok hv hw)
theorem sameValue_ok {v u : V} {ys zs : List AV} {fr fr2 : Bool} (hv : Vc fr v ys) (hu : Vc fr2 u zs) (hw : v.wf) (hw2 : u.wf) : Fn Try.prog 26 [.agg ys, .agg zs] (.c (.bool (v.same u))) := sameValue_n _ hv hu hw hw2 (Nat.le_refl _)

theorem rown_n  : ∀ (n : Nat) {v : V} {ys : List AV} {fr : Bool}, Vc fr v ys → v.wf → v.sz ≤ n → AC Try.prog 79 [] [.agg ys] (RetR (CopyR v)) := by
  intro n
  induction n with
  | zero => intro v ys fr hv hw h; exact absurd h (by have := V.sz_pos v; omega)
  | succ n ih =>
    intro v ys fr hv hw hn
    obtain ⟨k, b, t, ks, is⟩ := v
    subst hv
    obtain ⟨-, -, -, hk16, hi80, -, hwi⟩ := hw.inv
    have h1 : is.length ≤ 9223372036854775806 := by unfold reach at hi80; omega
    refine AC.of_J Try.func79 rfl Try.ntmps79 rfl fun w0 A0 => ?_
    refine J.seq ?_
    refine J.region_lit ?_
    refine JL.box_agg (.tmp rfl) rfl fun b1 => ?_
    refine JL.alloc z26 rfl rfl fun b2 => ?_
    refine JL.nil ?_
    refine thenQ.n ?_
    refine J.seq ?_
    refine J.region_lit ?_
    refine JL.q rfl rfl rfl (QW.assign .const) ?_
    refine JL.nil ?_
    refine thenQ.n ?_
    refine J.seq ?_
    refine J.region_lit ?_
    refine JL.q rfl rfl rfl (QW.assign .const) ?_
    refine JL.nil ?_
    refine thenQ.n ?_
    refine J.seq ?_
    refine J.reown (Reown.nilArrE eStr _) ?_
    refine J.region_lit ?_
    refine JL.q rfl rfl rfl (QW.move (.tmp rfl)) ?_
    refine JL.q rfl rfl rfl (QW.field_ptr fo26_3 (.tmp rfl) rfl) ?_
    refine JL.q rfl rfl rfl (QW.load_box1 1 ty23 (.tmp rfl) rfl rfl) ?_
    refine JL.append 2 sl23 el9 rfl (.tmp rfl) rfl (srcA_sl sl23 (.tmp rfl)) (by rw [keysAV_length]; simpa using hk16) rfl fun v9 => ?_
    refine JL.q rfl rfl rfl (QW.assign (.tmp rfl)) ?_
    refine JL.nil ?_
    refine thenQ.n ?_
    refine J.seq ?_
    refine J.seq ?_
    refine J.region_lit ?_
    refine JL.q rfl rfl rfl (QW.assign .const) ?_
    refine JL.nil ?_
    refine thenQ.n ?_
    refine J.block ?_
    refine J.reown (Reown.nilArrE eV _) ?_
    refine J.reown (Reown.nilGrpE _) ?_
    refine J.loopK (ι := Nat × Value × List (List AV) × List Value × Own) [1, 2, 3] (fun ⟨j, v, cs, us, o⟩ => [(5, .c (.int .i64 (j : Int))), (4, .c v)]) (fun ⟨j, v, cs, us, o⟩ oo => List.set (List.set oo 3 (.arr v eV cs)) 4 (o)) (fun ⟨j, v, cs, us, o⟩ => j ≤ is.length ∧ KidsTr (is.take j) cs us o) (fun ⟨j, v, cs, us, o⟩ => is.length - j) ⟨0, .slice none 0 0, [], [], .grp []⟩ (⟨Nat.zero_le _, .nil⟩) (Wk.re (.cons rfl (.refl _) (.cons rfl (.refl _) (.cons rfl (.refl _) (.cons rfl (.refl _) (.cons rfl (.refl _) .nil))))) (Reown.refl _) (fun _ h => by first | exact h | simp [h])) ?_
    intro ⟨j, v, cs, us, o⟩ ⟨hj, hK⟩
    refine J.conv (by (try simp only [stepsO, List.map_cons, List.map_nil, valO, nthO, curO, mrg, List.reverse_cons, List.reverse_nil, List.nil_append, List.cons_append, List.append_nil, List.getElem?_cons_zero, List.getElem?_cons_succ, Option.map_some, Option.getD_some, List.set_cons_zero, List.set_cons_succ, AV.cellsOf, splice_zero, splice_succ, Nat.zero_add, Nat.reduceAdd]); rfl) ?_
    refine J.seq ?_
    refine J.seq ?_
    refine J.region_lit ?_
    refine JL.q rfl rfl rfl (QW.move (.tmp rfl)) ?_
    refine JL.q rfl rfl rfl (QW.field_ptr fo26_4 (.tmp rfl) rfl) ?_
    refine JL.q rfl rfl rfl (QW.load_box1 1 ty24 (.tmp rfl) rfl rfl) ?_
    refine JL.q rfl rfl rfl (by first | exact QW.len_sl sl24 (.tmp rfl) | exact QW.len_nil sl24 (.tmp rfl)) ?_
    refine JL.q rfl rfl rfl (QW.lss (.tmp rfl) (.tmp rfl)) ?_
    refine JL.nil ?_
    refine thenQ.n ?_
    refine J.cond (.tmp rfl) (fun c1 => ?_) (fun c1 => ?_)
    · skip
      have hlt : j < is.length := by simpa [V.css_length] using c1
      refine J.skip ?_
      refine thenQ.n ?_
      refine J.seq ?_
      refine J.block ?_
      refine J.region_lit ?_
      refine JL.q rfl rfl rfl (QW.move (.tmp rfl)) ?_
      refine JL.q rfl rfl rfl (QW.field_ptr fo26_4 (.tmp rfl) rfl) ?_
      refine JL.q rfl rfl rfl (QW.load_box1 1 ty24 (.tmp rfl) rfl rfl) ?_
      refine JL.q rfl rfl rfl (QW.move (.tmp rfl)) ?_
      refine JL.q rfl rfl rfl (QW.index_sl sl24 ty26 rfl (.tmp rfl) (.tmp rfl) (by first | rfl | omega | (simp; done)) (by exact V.css_getE _ hlt)) ?_
      refine JL.q rfl rfl rfl (by first | exact QW.load_ref ty26 (.tmp rfl) rfl rfl | exact QW.load_ref ty26 (.tmp rfl) (take_at0 (V.cs_length _ _) rfl) (V.cs_length _ _)) ?_
      refine JL.callRF [] gofn79 rfl Lent.nil (fun _ => (.cons (.tmp rfl) .nil)) (ih Vc.self (hwi _ (List.getElem_mem _)) (V.sz_get hn hlt)) (.inl rfl) fun x23 o23 h23 => ?_
      obtain ⟨kv23, iv23, ok23, oi23, rfl, rfl, hV23⟩ := h23
      refine JL.q rfl rfl rfl (QW.buildSlice (idx := [0]) (xs := [is[j].raw kv23 iv23]) sl24 el26 z26 rfl (.cons (.tmp rfl) .nil) rfl rfl rfl rfl rfl rfl rfl rfl rfl) ?_
      refine JL.append 3 sl24 el26 rfl (.tmp rfl) rfl (srcA_sl sl24 (.tmp rfl)) (by have := hK.h2; rw [List.length_take] at this; simp; unfold reach at *; omega) rfl fun v25 => ?_
      refine JL.q rfl rfl rfl (QW.assign (.tmp rfl)) ?_
      refine JL.nil ?_
      refine blkQ.n ?_
      refine thenQ.n ?_
      refine J.region_lit ?_
      refine JL.q rfl rfl rfl (QW.move (.tmp rfl)) ?_
      refine JL.q rfl rfl rfl (QW.add (.tmp rfl) .const (by first | exact w64n (by first | rfl | omega | (simp; done)) (by omega) | exact w64 (by omega) | rfl)) ?_
      refine JL.q rfl rfl rfl (QW.assign (.tmp rfl)) ?_
      refine JL.nil ?_
      refine thenQ.n ?_
      exact ⟨⟨j + 1, _, _, _, _⟩, ⟨hlt, by rw [List.take_succ_eq_append_getElem hlt]; exact hK.snoc hV23⟩, by show is.length - (j + 1) < is.length - j; omega, Wk.re (.cons rfl (.refl _) (.cons rfl (.refl _) (.cons rfl (.refl _) (.cons rfl (.refl _) (.cons rfl (.refl _) .nil))))) ((Reown.cons (Reown.cons (Reown.cons (Reown.cons (Reown.tri _ _ _ _)))))) (fun _ h => by first | exact h | simp [h])⟩
    · skip
      have hge : is.length ≤ j := by simpa [V.css_length] using c1
      refine J.exit ?_
      refine thenQ.x ?_
      refine thenQ.x ?_
      refine blkQ.hit ?_
      refine thenQ.n ?_
      refine J.seq ?_
      refine J.region_lit ?_
      refine JL.q rfl rfl rfl (QW.move (.tmp rfl)) ?_
      refine JL.q rfl rfl rfl (QW.move (.tmp rfl)) ?_
      refine JL.q rfl rfl rfl (QW.field_ptr fo26_3 (.tmp rfl) rfl) ?_
      refine JL.isSlice 2 rfl fun hs2 => ?_
      refine JL.isSlice 3 rfl fun hs1 => ?_
      refine JL.store_box 1 ty23 (.tmp rfl) rfl (.tmp rfl) (by first | rfl | assumption) rfl rfl rfl rfl ?_
      refine JL.q rfl rfl rfl (QW.field_ptr fo26_4 (.tmp rfl) rfl) ?_
      refine JL.store_box 1 ty24 (.tmp rfl) rfl (.tmp rfl) (by first | rfl | assumption) rfl rfl rfl rfl ?_
      refine JL.nil ?_
      refine thenQ.n ?_
      refine J.seq ?_
      refine J.reown (Reown.cons (Reown.cons (Reown.cons (Reown.grp2 _ _ _)))) ?_
      refine J.region_lit ?_
      refine JL.q rfl rfl rfl (by first | exact QW.load_box 1 ty26 (.tmp rfl) rfl rfl rfl | exact QW.load_box 1 ty26 (.tmp rfl) rfl (take_at (V.cs_length _ _) rfl) (V.cs_length _ _)) ?_
      first | refine JL.store_boxF 0 ty26 (.tmp rfl) rfl (.tmp rfl) (by first | rfl | assumption) (rfl) (rfl) rfl ?_ | refine JL.store_boxF 0 ty26 (.tmp rfl) rfl (.tmp rfl) (by first | rfl | assumption) (rfl) (V.cs_length _ _) rfl ?_ | refine JL.store_boxF 0 ty26 (.tmp rfl) rfl (.tmp rfl) (by first | rfl | assumption) (V.cs_length _ _) (rfl) rfl ?_ | refine JL.store_boxF 0 ty26 (.tmp rfl) rfl (.tmp rfl) (by first | rfl | assumption) (V.cs_length _ _) (V.cs_length _ _) rfl ?_ | refine JL.store_box 0 ty26 (.tmp rfl) rfl (.tmp rfl) (by first | rfl | assumption) rfl rfl rfl rfl ?_ | refine JL.store_box 0 ty26 (.tmp rfl) rfl (.tmp rfl) (by first | rfl | assumption) (V.cs_length _ _) rfl rfl rfl ?_
      refine JL.nil ?_
      refine thenQ.n ?_
      refine J.ret ?_
      obtain rfl : j = is.length := by omega
      rw [List.take_length] at hK
      exact ⟨_, selP [.k, .k, .p, .p] _, _, RetEv.one rfl (by first | exact REv.cell 0 ty26 rfl rfl rfl rfl (.refl _) | exact REv.cell 0 ty26 rfl rfl (take_at (V.cs_length _ _) rfl) (V.cs_length _ _) (.refl _)), rfl, sel_perm [.k, .k, .p, .p] _, ⟨_, rfl, _, _, _, _, rfl, rfl, hs2, hs1, keys_tr hk16, hK.tr hi80⟩⟩

theorem rown_ok {v : V} {ys : List AV} {fr : Bool} (hv : Vc fr v ys) (hw : v.wf) : AC Try.prog 79 [] [.agg ys] (RetR (CopyR v)) := rown_n _ hv hw (Nat.le_refl _)
theorem rown_rd {v : V} {ys : List AV} {fr : Bool} (hv : Vc fr v ys) (hw : v.wf) : Fn Try.prog 79 [.agg ys] (.agg (v.cs true)) := .ofCopy (rown_ok hv hw)

def CloneR (e : ETy) (xs : List (List AV)) : AV → List Own → Prop := fun x o => ∃ v, x = .c v ∧ v.oneCell' = true ∧ o = [.arr v e xs]

theorem cloneStr_ok {fr : Bool} (xs : List (List AV)) (hr : xs.length * 16 ≤ reach) : AC Try.prog 108 [] [.sl fr false eStr xs] (RetR (CloneR eStr xs)) := by
  refine AC.of_J Try.func108 rfl Try.ntmps108 rfl fun w0 A0 => ?_
  refine J.seq ?_
  refine J.region_lit ?_
  refine JL.q rfl rfl rfl (QW.assign .const) ?_
  refine JL.nil ?_
  refine thenQ.n ?_
  refine J.seq ?_
  refine J.seq ?_
  refine J.region_lit ?_
  refine JL.q rfl rfl rfl (QW.move (.tmp rfl)) ?_
  refine JL.eqnil sl23 (.tmp rfl) .const rfl fun n4 hn4 => ?_
  refine JL.nil ?_
  refine thenQ.n ?_
  refine J.cond (.tmp rfl) (fun c1 => ?_) (fun c1 => ?_)
  · skip
    refine J.seq ?_
    refine J.reown (Reown.nilArrE eStr _) ?_
    refine J.region_lit ?_
    refine JL.q rfl rfl rfl (QW.assign .const) ?_
    refine JL.nil ?_
    refine thenQ.n ?_
    refine J.ret ?_
    refine thenQ.r ?_
    obtain rfl : xs = [] := hn4 c1
    exact ⟨_, selP [.p] _, _, RetEv.one rfl (REv.tmp rfl (.refl _)), rfl, sel_perm [.p] _, ⟨_, rfl, _, rfl, rfl, rfl⟩⟩
  · skip
    refine J.skip ?_
    refine thenQ.n ?_
    refine J.seq ?_
    refine J.region_lit ?_
    refine JL.buildSlice0 sl23 el9 rfl rfl fun v5 => ?_
    refine JL.q rfl rfl rfl (QW.move (.tmp rfl)) ?_
    refine JL.append 0 sl23 el9 rfl (.tmp rfl) rfl (srcA_sl sl23 (.tmp rfl)) (by simpa using hr) rfl fun v7 => ?_
    refine JL.isSlice 0 rfl fun hs1 => ?_
    refine JL.q rfl rfl rfl (QW.assign (.tmp rfl)) ?_
    refine JL.nil ?_
    refine thenQ.n ?_
    refine J.ret ?_
    exact ⟨_, selP [.p] _, _, RetEv.one rfl (REv.tmp rfl (.refl _)), rfl, sel_perm [.p] _, ⟨_, rfl, _, rfl, hs1, rfl⟩⟩

theorem cloneVal_ok {fr : Bool} (xs : List (List AV)) (hr : xs.length * 80 ≤ reach) : AC Try.prog 109 [] [.sl fr false eV xs] (RetR (CloneR eV xs)) := by
  refine AC.of_J Try.func109 rfl Try.ntmps109 rfl fun w0 A0 => ?_
  refine J.seq ?_
  refine J.region_lit ?_
  refine JL.q rfl rfl rfl (QW.assign .const) ?_
  refine JL.nil ?_
  refine thenQ.n ?_
  refine J.seq ?_
  refine J.seq ?_
  refine J.region_lit ?_
  refine JL.q rfl rfl rfl (QW.move (.tmp rfl)) ?_
  refine JL.eqnil sl24 (.tmp rfl) .const rfl fun n4 hn4 => ?_
  refine JL.nil ?_
  refine thenQ.n ?_
  refine J.cond (.tmp rfl) (fun c1 => ?_) (fun c1 => ?_)
  · skip
    refine J.seq ?_
    refine J.reown (Reown.nilArrE eV _) ?_
    refine J.region_lit ?_
    refine JL.q rfl rfl rfl (QW.assign .const) ?_
    refine JL.nil ?_
    refine thenQ.n ?_
    refine J.ret ?_
    refine thenQ.r ?_
    obtain rfl : xs = [] := hn4 c1
    exact ⟨_, selP [.p] _, _, RetEv.one rfl (REv.tmp rfl (.refl _)), rfl, sel_perm [.p] _, ⟨_, rfl, _, rfl, rfl, rfl⟩⟩
  · skip
    refine J.skip ?_
    refine thenQ.n ?_
    refine J.seq ?_
    refine J.region_lit ?_
    refine JL.buildSlice0 sl24 el26 rfl rfl fun v5 => ?_
    refine JL.q rfl rfl rfl (QW.move (.tmp rfl)) ?_
    refine JL.append 0 sl24 el26 rfl (.tmp rfl) rfl (srcA_sl sl24 (.tmp rfl)) (by simpa using hr) rfl fun v7 => ?_
    refine JL.isSlice 0 rfl fun hs1 => ?_
    refine JL.q rfl rfl rfl (QW.assign (.tmp rfl)) ?_
    refine JL.nil ?_
    refine thenQ.n ?_
    refine J.ret ?_
    exact ⟨_, selP [.p] _, _, RetEv.one rfl (REv.tmp rfl (.refl _)), rfl, sel_perm [.p] _, ⟨_, rfl, _, rfl, hs1, rfl⟩⟩

theorem clone_get {cs : List (List AV)} {is : List V} {j : Nat} (fr : Bool) (hc : cs.length = j) (h : j < is.length) : (cs ++ V.css fr (is.drop j))[j]? = some (V.cs fr is[j]) := by
  rw [List.getElem?_append_right (by omega), hc, Nat.sub_self, List.drop_eq_getElem_cons h]; rfl
theorem clone_set {cs : List (List AV)} {is : List V} {j : Nat} {fr : Bool} {z : List AV} (hc : cs.length = j) (h : j < is.length) : (cs ++ V.css fr (is.drop j)).set j z = (cs ++ [z]) ++ V.css fr (is.drop (j + 1)) := by
  rw [List.set_append_right _ _ (by omega), hc, Nat.sub_self, List.drop_eq_getElem_cons h]
  simp [V.css]
theorem splice_all {ys zs : List AV} (h : zs.length = ys.length) : splice ys 0 zs = zs := by unfold splice; simp [h]

theorem clone_n  : ∀ (n : Nat) {v : V} {ys : List AV} {fr : Bool}, Vc fr v ys → v.wf → v.sz ≤ n → AC Try.prog 77 [] [.agg ys] (RetR (CopyR v)) := by
  intro n
  induction n with
  | zero => intro v ys fr hv hw h; exact absurd h (by have := V.sz_pos v; omega)
  | succ n ih =>
    intro v ys fr hv hw hn
    obtain ⟨k, b, t, ks, is⟩ := v
    subst hv
    obtain ⟨-, -, -, hk16, hi80, -, hwi⟩ := hw.inv
    have h1 : is.length ≤ 9223372036854775806 := by unfold reach at hi80; omega
    refine AC.of_J Try.func77 rfl Try.ntmps77 rfl fun w0 A0 => ?_
    refine J.seq ?_
    refine J.region_lit ?_
    refine JL.box_agg (.tmp rfl) rfl fun b1 => ?_
    refine JL.alloc z26 rfl rfl fun b2 => ?_
    refine JL.nil ?_
    refine thenQ.n ?_
    refine J.seq ?_
    refine J.region_outK 7 2 (fun os_ ow_ x_ o_ => match os_ with | [] => (∃ o2_, (CloneR eStr (keysAV ks)) x_ o2_ ∧ o_ = mrg [] o2_ ow_) | [(x0_, _)] => (∃ o2_, (CloneR eV (V.css fr is)) x_ o2_ ∧ o_ = mrg [] o2_ ow_) | _ => False) mixed (by kernel_rfl) (by kernel_rfl) (by kernel_rfl) rfl ?_
    refine OutK.quiet [] rfl rfl rfl (fun qs_ qv_ ql_ => (.q rfl (QW.field_ptr fo26_3 (.tmp rfl) rfl))) ?_
    refine OutK.quiet [5] rfl rfl rfl (fun qs_ qv_ ql_ => by
        rcases qs_ with _ | ⟨⟨y0, p0⟩, qs_⟩
        · skip
          exact (.q rfl (QW.load_box1 1 ty23 (.tmp rfl) rfl rfl))
        rcases qs_ with _ | ⟨⟨y1, p1⟩, qs_⟩
        · skip
          obtain ⟨hr0, _⟩ := qv_
          obtain ⟨o7, ⟨kv7, rfl, hs7, rfl⟩, rfl⟩ := hr0
          exact (.q rfl (QW.load_box1 1 ty23 (.tmp rfl) rfl rfl))
        rcases qs_ with _ | ⟨⟨y2, p2⟩, qs_⟩
        · skip
          obtain ⟨hr1, hr0, _⟩ := qv_
          obtain ⟨o7, ⟨kv7, rfl, hs7, rfl⟩, rfl⟩ := hr0
          obtain ⟨o10, ⟨iv10, rfl, hs10, rfl⟩, rfl⟩ := hr1
          exact (.q rfl (QW.load_box1 1 ty23 (.tmp rfl) rfl rfl))
        exact absurd ql_ (by simp)) ?_
    refine OutK.loud [6] rfl rfl rfl rfl rfl (fun qs_ qv_ ql_ => by
        obtain rfl : qs_ = [] := List.length_eq_zero_iff.1 ql_
        exact LStepR.callRF (d := 7) [] gofn108 Lent.nil (fun _ => (.cons (.tmp rfl) .nil)) (cloneStr_ok _ (by rw [keysAV_length]; exact hk16)) (.inl rfl)) ?_
    refine OutK.quiet [] rfl rfl rfl (fun qs_ qv_ ql_ => (.q rfl (QW.field_ptr fo26_4 (.tmp rfl) rfl))) ?_
    refine OutK.quiet [8] rfl rfl rfl (fun qs_ qv_ ql_ => by
        rcases qs_ with _ | ⟨⟨y0, p0⟩, qs_⟩
        · skip
          exact (.q rfl (QW.load_box1 1 ty24 (.tmp rfl) rfl rfl))
        rcases qs_ with _ | ⟨⟨y1, p1⟩, qs_⟩
        · skip
          obtain ⟨hr0, _⟩ := qv_
          obtain ⟨o7, ⟨kv7, rfl, hs7, rfl⟩, rfl⟩ := hr0
          exact (.q rfl (QW.load_box1 1 ty24 (.tmp rfl) rfl rfl))
        rcases qs_ with _ | ⟨⟨y2, p2⟩, qs_⟩
        · skip
          obtain ⟨hr1, hr0, _⟩ := qv_
          obtain ⟨o7, ⟨kv7, rfl, hs7, rfl⟩, rfl⟩ := hr0
          obtain ⟨o10, ⟨iv10, rfl, hs10, rfl⟩, rfl⟩ := hr1
          exact (.q rfl (QW.load_box1 1 ty24 (.tmp rfl) rfl rfl))
        exact absurd ql_ (by simp)) ?_
    refine OutK.loud [9] rfl rfl rfl rfl rfl (fun qs_ qv_ ql_ => by
        obtain ⟨⟨y0, p0⟩, qs_, rfl⟩ : ∃ p t, qs_ = p :: t := by (cases qs_ with | nil => simp at ql_ | cons p t => exact ⟨p, t, rfl⟩)
        obtain rfl : qs_ = [] := List.length_eq_zero_iff.1 (by simpa using ql_)
        obtain ⟨hr0, _⟩ := qv_
        obtain ⟨o7, ⟨kv7, rfl, hs7, rfl⟩, rfl⟩ := hr0
        exact LStepR.callRF (d := 10) [] gofn109 Lent.nil (fun _ => (.cons (.tmp rfl) .nil)) (cloneVal_ok _ (by rw [V.css_length]; exact hi80)) (.inl rfl)) ?_
    refine OutK.quiet [] rfl rfl rfl (fun qs_ qv_ ql_ => (.q rfl (QW.field_ptr fo26_3 (.tmp rfl) rfl))) ?_
    refine .nil fun qs_ qv_ ql_ => ?_
    obtain ⟨⟨y1, p1⟩, qs_, rfl⟩ : ∃ p t, qs_ = p :: t := by (cases qs_ with | nil => simp at ql_ | cons p t => exact ⟨p, t, rfl⟩)
    simp only [List.length_cons, Nat.add_right_cancel_iff] at ql_
    obtain ⟨⟨y0, p0⟩, qs_, rfl⟩ : ∃ p t, qs_ = p :: t := by (cases qs_ with | nil => simp at ql_ | cons p t => exact ⟨p, t, rfl⟩)
    obtain rfl : qs_ = [] := List.length_eq_zero_iff.1 (by simpa using ql_)
    obtain ⟨hr1, hr0, _⟩ := qv_
    obtain ⟨o7, ⟨kv7, rfl, hs7, rfl⟩, rfl⟩ := hr0
    obtain ⟨o10, ⟨iv10, rfl, hs10, rfl⟩, rfl⟩ := hr1
    refine JL.conv (by (try simp only [stepsO, List.map_cons, List.map_nil, valO, nthO, curO, mrg, List.reverse_cons, List.reverse_nil, List.nil_append, List.cons_append, List.append_nil, List.getElem?_cons_zero, List.getElem?_cons_succ, Option.map_some, Option.getD_some, List.set_cons_zero, List.set_cons_succ, AV.cellsOf, splice_zero, splice_succ, Nat.zero_add, Nat.reduceAdd]); rfl) ?_
    refine JL.store_box 1 ty23 (.tmp rfl) rfl (.tmp rfl) (by first | rfl | assumption) rfl rfl rfl rfl ?_
    refine JL.q rfl rfl rfl (QW.field_ptr fo26_4 (.tmp rfl) rfl) ?_
    refine JL.store_box 1 ty24 (.tmp rfl) rfl (.tmp rfl) (by first | rfl | assumption) rfl rfl rfl rfl ?_
    refine JL.nil ?_
    refine thenQ.n ?_
    refine J.seq ?_
    refine J.seq ?_
    refine J.region_lit ?_
    refine JL.q rfl rfl rfl (QW.field_ptr fo26_4 (.tmp rfl) rfl) ?_
    refine JL.q rfl rfl rfl (QW.load_box1 1 ty24 (.tmp rfl) rfl rfl) ?_
    refine JL.q rfl rfl rfl (QW.len_arr 3 sl24 (.tmp rfl) rfl) ?_
    refine JL.q rfl rfl rfl (QW.move .const) ?_
    refine JL.nil ?_
    refine thenQ.n ?_
    refine J.block ?_
    refine J.reown (Reown.nilGrpE _) ?_
    refine J.loopK (ι := Nat × List (List AV) × List Value × Own) [1, 2, 14, 15] (fun ⟨j, cs, us, o⟩ => [(16, .c (.int .i64 (j : Int)))]) (fun ⟨j, cs, us, o⟩ oo => List.set (List.set oo 3 (.arr iv10 eV (cs ++ V.css fr (is.drop j)))) 4 (o)) (fun ⟨j, cs, us, o⟩ => j ≤ is.length ∧ KidsTr (is.take j) cs us o) (fun ⟨j, cs, us, o⟩ => is.length - j) ⟨0, [], [], .grp []⟩ (⟨Nat.zero_le _, .nil⟩) (Wk.re (.cons rfl (.refl _) (.cons rfl (.refl _) (.cons rfl (.refl _) (.cons rfl (.refl _) (.cons rfl (.refl _) .nil))))) (Reown.refl _) (fun _ h => by first | exact h | simp [h])) ?_
    intro ⟨j, cs, us, o⟩ ⟨hj, hK⟩
    refine J.conv (by (try simp only [stepsO, List.map_cons, List.map_nil, valO, nthO, curO, mrg, List.reverse_cons, List.reverse_nil, List.nil_append, List.cons_append, List.append_nil, List.getElem?_cons_zero, List.getElem?_cons_succ, Option.map_some, Option.getD_some, List.set_cons_zero, List.set_cons_succ, AV.cellsOf, splice_zero, splice_succ, Nat.zero_add, Nat.reduceAdd]); rfl) ?_
    refine J.seq ?_
    refine J.region_lit ?_
    refine JL.q rfl rfl rfl (QW.lss (.tmp rfl) (.tmp rfl)) ?_
    refine JL.nil ?_
    refine thenQ.n ?_
    refine J.seq ?_
    refine J.cond (.tmp rfl) (fun c1 => ?_) (fun c1 => ?_)
    · skip
      have hlt : j < is.length := by simpa [V.css_length] using c1
      have hcl : cs.length = j := by have := hK.h2; rw [List.length_take] at this; omega
      refine J.skip ?_
      refine thenQ.n ?_
      refine J.seq ?_
      refine J.block ?_
      refine J.seq ?_
      refine J.region_lit ?_
      refine JL.q rfl rfl rfl (QW.move (.tmp rfl)) ?_
      refine JL.q rfl rfl rfl (QW.index_arr 3 sl24 ty26 rfl (.tmp rfl) rfl (.tmp rfl) (by first | rfl | omega | (simp; done)) (by simp [V.css_length]; omega) rfl) ?_
      refine JL.q rfl rfl rfl (by first | exact QW.load_gp 3 ty26 (.tmp rfl) rfl (by exact clone_get fr hcl hlt) rfl rfl rfl | exact QW.load_gp (o := 0) 3 ty26 (.tmp rfl) rfl (by exact clone_get fr hcl hlt) rfl rfl rfl | exact QW.load_gp (o := 1) 3 ty26 (.tmp rfl) rfl (by exact clone_get fr hcl hlt) rfl rfl rfl | exact QW.load_gp (o := 2) 3 ty26 (.tmp rfl) rfl (by exact clone_get fr hcl hlt) rfl rfl rfl | exact QW.load_gp 3 ty26 (.tmp rfl) rfl (by exact clone_get fr hcl hlt) rfl (take_full (V.cs_length _ _)) (V.cs_length _ _)) ?_
      refine JL.alloc z26 rfl rfl fun b4 => ?_
      refine JL.q rfl rfl rfl (QW.assign (.tmp rfl)) ?_
      first | refine JL.store_boxF 0 ty26 (.tmp rfl) rfl (.tmp rfl) (by first | rfl | assumption) (rfl) (rfl) rfl ?_ | refine JL.store_boxF 0 ty26 (.tmp rfl) rfl (.tmp rfl) (by first | rfl | assumption) (rfl) (V.cs_length _ _) rfl ?_ | refine JL.store_boxF 0 ty26 (.tmp rfl) rfl (.tmp rfl) (by first | rfl | assumption) (V.cs_length _ _) (rfl) rfl ?_ | refine JL.store_boxF 0 ty26 (.tmp rfl) rfl (.tmp rfl) (by first | rfl | assumption) (V.cs_length _ _) (V.cs_length _ _) rfl ?_ | refine JL.store_box 0 ty26 (.tmp rfl) rfl (.tmp rfl) (by first | rfl | assumption) rfl rfl rfl rfl ?_ | refine JL.store_box 0 ty26 (.tmp rfl) rfl (.tmp rfl) (by first | rfl | assumption) (V.cs_length _ _) rfl rfl rfl ?_
      refine JL.nil ?_
      refine thenQ.n ?_
      refine J.region_outK 5 1 (fun os_ ow_ x_ o_ => match os_ with | [] => (∃ o2_, (CopyR is[j]) x_ o2_ ∧ o_ = mrg [] o2_ ow_) | _ => False) mixed (by kernel_rfl) (by kernel_rfl) (by kernel_rfl) rfl ?_
      refine OutK.quiet [] rfl rfl rfl (fun qs_ qv_ ql_ => (.q rfl (QW.field_ptr fo26_4 (.tmp rfl) rfl))) ?_
      refine OutK.quiet [21] rfl rfl rfl (fun qs_ qv_ ql_ => by
          rcases qs_ with _ | ⟨⟨y0, p0⟩, qs_⟩
          · skip
            exact (.q rfl (QW.load_box1 2 ty24 (.tmp rfl) rfl rfl))
          rcases qs_ with _ | ⟨⟨y1, p1⟩, qs_⟩
          · skip
            obtain ⟨hr0, _⟩ := qv_
            obtain ⟨o25, ⟨kv25, iv25, ok25, oi25, rfl, rfl, hV25⟩, rfl⟩ := hr0
            exact (.q rfl (QW.load_box1 2 ty24 (.tmp rfl) rfl rfl))
          exact absurd ql_ (by simp)) ?_
      refine OutK.quiet [] rfl rfl rfl (fun qs_ qv_ ql_ => (.q rfl (QW.move (.tmp rfl)))) ?_
      refine OutK.quiet [] rfl rfl rfl (fun qs_ qv_ ql_ => by
          rcases qs_ with _ | ⟨⟨y0, p0⟩, qs_⟩
          · skip
            exact (.q rfl (by first | exact QW.load_box 0 ty26 (.tmp rfl) rfl rfl rfl | exact QW.load_box 0 ty26 (.tmp rfl) rfl (take_at (V.cs_length _ _) rfl) (V.cs_length _ _)))
          rcases qs_ with _ | ⟨⟨y1, p1⟩, qs_⟩
          · skip
            obtain ⟨hr0, _⟩ := qv_
            obtain ⟨o25, ⟨kv25, iv25, ok25, oi25, rfl, rfl, hV25⟩, rfl⟩ := hr0
            exact (.q rfl (by first | exact QW.load_box 0 ty26 (.tmp rfl) rfl rfl rfl | exact QW.load_box 0 ty26 (.tmp rfl) rfl (take_at (V.cs_length _ _) rfl) (V.cs_length _ _)))
          exact absurd ql_ (by simp)) ?_
      refine OutK.loud [24] rfl rfl rfl rfl rfl (fun qs_ qv_ ql_ => by
          obtain rfl : qs_ = [] := List.length_eq_zero_iff.1 ql_
          exact LStepR.callRF (d := 25) [] gofn77 Lent.nil (fun _ => (.cons (.tmp rfl) .nil)) (ih Vc.self (hwi _ (List.getElem_mem _)) (V.sz_get hn hlt)) (.inl rfl)) ?_
      refine .nil fun qs_ qv_ ql_ => ?_
      obtain ⟨⟨y0, p0⟩, qs_, rfl⟩ : ∃ p t, qs_ = p :: t := by (cases qs_ with | nil => simp at ql_ | cons p t => exact ⟨p, t, rfl⟩)
      obtain rfl : qs_ = [] := List.length_eq_zero_iff.1 (by simpa using ql_)
      obtain ⟨hr0, _⟩ := qv_
      obtain ⟨o25, ⟨kv25, iv25, ok25, oi25, rfl, rfl, hV25⟩, rfl⟩ := hr0
      refine JL.conv (by (try simp only [stepsO, List.map_cons, List.map_nil, valO, nthO, curO, mrg, List.reverse_cons, List.reverse_nil, List.nil_append, List.cons_append, List.append_nil, List.getElem?_cons_zero, List.getElem?_cons_succ, Option.map_some, Option.getD_some, List.set_cons_zero, List.set_cons_succ, AV.cellsOf, splice_zero, splice_succ, Nat.zero_add, Nat.reduceAdd]); rfl) ?_
      refine JL.q rfl rfl rfl (QW.index_arr 4 sl24 ty26 rfl (.tmp rfl) rfl (.tmp rfl) (by first | rfl | omega | (simp; done)) (by simp [V.css_length]; omega) rfl) ?_
      refine JL.store_gp 4 ty26 (.tmp rfl) rfl (clone_get fr hcl hlt) rfl (.tmp rfl) rfl rfl rfl ((congrArg (List.set _ _) (splice_all (by rw [V.cs_length]; try rfl))).trans (clone_set hcl hlt)) rfl ?_
      refine JL.nil ?_
      refine blkQ.n ?_
      refine thenQ.n ?_
      refine J.region_lit ?_
      refine JL.q rfl rfl rfl (QW.add (.tmp rfl) .const (by first | exact w64n (by first | rfl | omega | (simp; done)) (by omega) | exact w64 (by omega) | rfl)) ?_
      refine JL.q rfl rfl rfl (QW.move (.tmp rfl)) ?_
      refine JL.nil ?_
      refine thenQ.n ?_
      exact ⟨⟨j + 1, cs ++ [is[j].raw kv25 iv25], us ++ is[j].vals kv25 iv25, .grp [o, .grp [ok25, oi25]]⟩, ⟨hlt, by rw [List.take_succ_eq_append_getElem hlt]; exact hK.snoc hV25⟩, by show is.length - (j + 1) < is.length - j; omega, Wk.re (.cons rfl (.refl _) (.cons rfl (.refl _) (.cons rfl (.refl _) (.cons rfl (.refl _) (.cons rfl (.refl _) .nil))))) ((Reown.dropN 1 _ rfl).trans (Reown.cons (Reown.cons (Reown.cons (Reown.cons (Reown.tri _ _ _ _)))))) (fun _ h => by first | exact h | simp [h])⟩
    · skip
      have hge : is.length ≤ j := by simpa [V.css_length] using c1
      refine J.exit ?_
      refine thenQ.x ?_
      refine thenQ.x ?_
      refine blkQ.hit ?_
      refine thenQ.n ?_
      refine J.seq ?_
      refine J.reown (Reown.cons (Reown.cons (Reown.cons (Reown.grp2 _ _ _)))) ?_
      refine J.region_lit ?_
      refine JL.q rfl rfl rfl (by first | exact QW.load_box 1 ty26 (.tmp rfl) rfl rfl rfl | exact QW.load_box 1 ty26 (.tmp rfl) rfl (take_at (V.cs_length _ _) rfl) (V.cs_length _ _)) ?_
      first | refine JL.store_boxF 0 ty26 (.tmp rfl) rfl (.tmp rfl) (by first | rfl | assumption) (rfl) (rfl) rfl ?_ | refine JL.store_boxF 0 ty26 (.tmp rfl) rfl (.tmp rfl) (by first | rfl | assumption) (rfl) (V.cs_length _ _) rfl ?_ | refine JL.store_boxF 0 ty26 (.tmp rfl) rfl (.tmp rfl) (by first | rfl | assumption) (V.cs_length _ _) (rfl) rfl ?_ | refine JL.store_boxF 0 ty26 (.tmp rfl) rfl (.tmp rfl) (by first | rfl | assumption) (V.cs_length _ _) (V.cs_length _ _) rfl ?_ | refine JL.store_box 0 ty26 (.tmp rfl) rfl (.tmp rfl) (by first | rfl | assumption) rfl rfl rfl rfl ?_ | refine JL.store_box 0 ty26 (.tmp rfl) rfl (.tmp rfl) (by first | rfl | assumption) (V.cs_length _ _) rfl rfl rfl ?_
      refine JL.nil ?_
      refine thenQ.n ?_
      refine J.ret ?_
      obtain rfl : j = is.length := by omega
      rw [List.take_length] at hK
      exact ⟨_, selP [.k, .k, .p, .p] _, _, RetEv.one rfl (by first | exact REv.cell 0 ty26 rfl rfl rfl rfl (.refl _) | exact REv.cell 0 ty26 rfl rfl (take_at (V.cs_length _ _) rfl) (V.cs_length _ _) (.refl _)), rfl, sel_perm [.k, .k, .p, .p] _, ⟨_, rfl, _, _, _, _, rfl, rfl, hs7, hs10, keys_tr hk16, by rw [show cs ++ V.css fr (is.drop is.length) = cs by simp [V.css]]; exact hK.tr hi80⟩⟩

theorem clone_ok {v : V} {ys : List AV} {fr : Bool} (hv : Vc fr v ys) (hw : v.wf) : AC Try.prog 77 [] [.agg ys] (RetR (CopyR v)) := clone_n _ hv hw (Nat.le_refl _)
theorem clone_rd {v : V} {ys : List AV} {fr : Bool} (hv : Vc fr v ys) (hw : v.wf) : Fn Try.prog 77 [.agg ys] (.agg (v.cs true)) := .ofCopy (clone_ok hv hw)

end Go.Proofs.Ytkiankpmkglhcaa.J

/- Walks: events: may one be, lists of them. -/
namespace Go.Proofs.Ytkiankpmkglhcaa.J
open Go Go.RowKit
set_option linter.unusedVariables false
set_option linter.unusedSimpArgs false
set_option maxRecDepth 10000
set_option maxHeartbeats 4000000

theorem name_ok (s : Str) : Fn Try.prog 122 [.c (str s)] (.c (.bool (nameOk s))) := by
  refine AC.of_J Try.func122 rfl Try.ntmps122 rfl fun w0 A0 => ?_
  refine J.seq ?_
  refine J.region_lit ?_
  refine JL.q rfl rfl rfl (QW.assign .const) ?_
  refine JL.nil ?_
  refine thenQ.n ?_
  refine J.seq ?_
  refine J.region_lit ?_
  refine JL.q rfl rfl rfl (QW.move (.tmp rfl)) ?_
  refine JL.q rfl rfl rfl (QW.neq_s (.tmp rfl) .const) ?_
  refine JL.q rfl rfl rfl (QW.move (.tmp rfl)) ?_
  refine JL.g rfl rfl rfl rfl rfl (fun hg => (QW.move (.tmp rfl))) ?_
  refine JL.g rfl rfl rfl rfl rfl (fun hg => (QW.len_s st9 (.when rfl hg))) ?_
  refine JL.g rfl rfl rfl rfl rfl (fun hg => (QW.leq (.when rfl hg) .const)) ?_
  refine JL.q rfl rfl rfl (QW.pick_and (.tmp rfl) (.tmp rfl)) ?_
  refine JL.q rfl rfl rfl (QW.assign (.tmp rfl)) ?_
  refine JL.nil ?_
  refine thenQ.n ?_
  refine J.ret ?_
  exact ⟨_, selP [] _, _, RetEv.one rfl (REv.tmp rfl (.refl _)), rfl, sel_perm [] _, ⟨by simp only [nameOk, keyOk]; congr 3; rw [Bool.eq_iff_iff]; cases s <;> simp [bne] <;> omega, rfl⟩⟩

theorem rname_ok (s : Str) : Fn Try.prog 89 [.c (str s)] (.c (.bool (nameOk s))) := by
  refine AC.of_J Try.func89 rfl Try.ntmps89 rfl fun w0 A0 => ?_
  refine J.seq ?_
  refine J.region_lit ?_
  refine JL.q rfl rfl rfl (QW.assign .const) ?_
  refine JL.nil ?_
  refine thenQ.n ?_
  refine J.seq ?_
  refine J.region_lit ?_
  refine JL.q rfl rfl rfl (QW.move (.tmp rfl)) ?_
  refine JL.q rfl rfl rfl (QW.len_s st9 (.tmp rfl)) ?_
  refine JL.q rfl rfl rfl (QW.geq (.tmp rfl) .const) ?_
  refine JL.q rfl rfl rfl (QW.move (.tmp rfl)) ?_
  refine JL.g rfl rfl rfl rfl rfl (fun hg => (QW.move (.tmp rfl))) ?_
  refine JL.g rfl rfl rfl rfl rfl (fun hg => (QW.len_s st9 (.when rfl hg))) ?_
  refine JL.g rfl rfl rfl rfl rfl (fun hg => (QW.leq (.when rfl hg) .const)) ?_
  refine JL.q rfl rfl rfl (QW.pick_and (.tmp rfl) (.tmp rfl)) ?_
  refine JL.q rfl rfl rfl (QW.assign (.tmp rfl)) ?_
  refine JL.nil ?_
  refine thenQ.n ?_
  refine J.ret ?_
  exact ⟨_, selP [] _, _, RetEv.one rfl (REv.tmp rfl (.refl _)), rfl, sel_perm [] _, ⟨by simp only [nameOk, keyOk]; congr 3; rw [Bool.eq_iff_iff]; simp; omega, rfl⟩⟩

theorem event_ok {fr : Bool} {e : EvT} {ys : List AV} (he : Ec fr e ys) (hw : e.wf) : Fn Try.prog 84 [.agg ys] (.c (.int .i64 (evErr e))) := by
  obtain ⟨nm, v⟩ := e
  obtain ⟨-, hv⟩ := hw
  subst he
  refine AC.of_J Try.func84 rfl Try.ntmps84 rfl fun w0 A0 => ?_
  refine J.seq ?_
  refine J.region_lit ?_
  refine JL.box_agg (.tmp rfl) rfl fun b1 => ?_
  refine JL.q rfl rfl rfl (QW.assign .const) ?_
  refine JL.nil ?_
  refine thenQ.n ?_
  refine J.seq ?_
  refine J.seq ?_
  refine J.region_lit ?_
  refine JL.q rfl rfl rfl (QW.field_ptr fo70_0 (.tmp rfl) rfl) ?_
  refine JL.q rfl rfl rfl (QW.load_box1 0 ty9 (.tmp rfl) rfl rfl) ?_
  refine JL.q rfl rfl rfl (QW.call gofn122 (.cons (.tmp rfl) .nil) (name_ok _)) ?_
  refine JL.q rfl rfl rfl (QW.not (.tmp rfl)) ?_
  refine JL.nil ?_
  refine thenQ.n ?_
  refine J.cond (.tmp rfl) (fun c1 => ?_) (fun c1 => ?_)
  · skip
    simp at c1
    refine J.seq ?_
    refine J.region_lit ?_
    refine JL.q rfl rfl rfl (QW.assign .const) ?_
    refine JL.nil ?_
    refine thenQ.n ?_
    refine J.ret ?_
    refine thenQ.r ?_
    exact ⟨_, selP [.k] _, _, RetEv.one rfl (REv.tmp rfl (.refl _)), rfl, sel_perm [.k] _, ⟨by simp [evErr, c1], rfl⟩⟩
  · skip
    simp at c1
    refine J.skip ?_
    refine thenQ.n ?_
    refine J.seq ?_
    refine J.region_lit ?_
    refine JL.q rfl rfl rfl (QW.field_ptr fo70_1 (.tmp rfl) rfl) ?_
    refine JL.q rfl rfl rfl (by first | exact QW.load_box 0 ty26 (.tmp rfl) rfl rfl rfl | exact QW.load_box 0 ty26 (.tmp rfl) rfl (take_at (V.cs_length _ _) rfl) (V.cs_length _ _)) ?_
    refine JL.q rfl rfl rfl (QW.call gofn24 (.cons (.tmp rfl) .nil) (check_ok Vc.self hv)) ?_
    refine JL.q rfl rfl rfl (QW.assign (.tmp rfl)) ?_
    refine JL.nil ?_
    refine thenQ.n ?_
    refine J.ret ?_
    exact ⟨_, selP [.k] _, _, RetEv.one rfl (REv.tmp rfl (.refl _)), rfl, sel_perm [.k] _, ⟨by simp [evErr, c1], rfl⟩⟩

theorem odd_ok {fr : Bool} {e : EvT} {ys : List AV} (he : Ec fr e ys) (hw : e.wf) : Fn Try.prog 92 [.agg ys] (.c (.bool (!evOk e))) := by
  subst he
  refine AC.of_J Try.func92 rfl Try.ntmps92 rfl fun w0 A0 => ?_
  refine J.seq ?_
  refine J.region_lit ?_
  refine JL.box_agg (.tmp rfl) rfl fun b1 => ?_
  refine JL.q rfl rfl rfl (QW.assign .const) ?_
  refine JL.nil ?_
  refine thenQ.n ?_
  refine J.seq ?_
  refine J.region_lit ?_
  refine JL.q rfl rfl rfl (by first | exact QW.load_box 0 ty70 (.tmp rfl) rfl rfl rfl | exact QW.load_box 0 ty70 (.tmp rfl) rfl (take_at (EvT.cs_length _ _) rfl) (EvT.cs_length _ _)) ?_
  refine JL.q rfl rfl rfl (QW.call gofn84 (.cons (.tmp rfl) .nil) (event_ok Ec.self hw)) ?_
  refine JL.q rfl rfl rfl (QW.neq (.tmp rfl) .const) ?_
  refine JL.q rfl rfl rfl (QW.assign (.tmp rfl)) ?_
  refine JL.nil ?_
  refine thenQ.n ?_
  refine J.ret ?_
  exact ⟨_, selP [.k] _, _, RetEv.one rfl (REv.tmp rfl (.refl _)), rfl, sel_perm [.k] _, ⟨ret_b (by rw [evOk_iff]; simp), rfl⟩⟩

theorem indexEv_ok {fr c : Bool} {l : List EvT} {g : FuncId} (hl : EvT.wfs l) (hg : goFn Try.prog g = true) (p : EvT → Bool) (hp : ∀ e ∈ l, Fn Try.prog g [.agg (e.cs fr)] (.c (.bool (p e)))) :
    Fn Try.prog 124 [.sl fr c eEv (EvT.css fr l), .c (.func (.func g) #[] #[])] (.c (.int .i64 (idxF p l 0))) := by
  have hlen := hl.len
  refine AC.of_J Try.func124 rfl Try.ntmps124 rfl fun w0 A0 => ?_
  refine J.seq ?_
  refine J.region_lit ?_
  refine JL.q rfl rfl rfl (QW.assign .const) ?_
  refine JL.nil ?_
  refine thenQ.n ?_
  refine J.seq ?_
  refine J.seq ?_
  refine J.region_lit ?_
  refine JL.q rfl rfl rfl (QW.move (.tmp rfl)) ?_
  refine JL.q rfl rfl rfl (by first | exact QW.len_sl sl56 (.tmp rfl) | exact QW.len_nil sl56 (.tmp rfl)) ?_
  refine JL.q rfl rfl rfl (QW.move .const) ?_
  refine JL.nil ?_
  refine thenQ.n ?_
  refine J.block ?_
  refine J.loopK (ι := Nat) [0, 1, 7] (fun j => [(8, .c (.int .i64 (j : Int)))]) (fun _ oo => oo) (fun j => j ≤ l.length ∧ idxF p l 0 = idxF p (l.drop j) (j : Int)) (fun j => l.length - j) 0 (⟨Nat.zero_le _, rfl⟩) (Wk.re (.cons rfl (.refl _) (.cons rfl (.refl _) (.cons rfl (.refl _) (.cons rfl (.refl _) .nil)))) (Reown.refl _) (fun _ h => by first | exact h | simp [h])) ?_
  intro j ⟨hj, hi⟩
  refine J.conv (by (try simp only [stepsO, List.map_cons, List.map_nil, valO, nthO, curO, mrg, List.reverse_cons, List.reverse_nil, List.nil_append, List.cons_append, List.append_nil, List.getElem?_cons_zero, List.getElem?_cons_succ, Option.map_some, Option.getD_some, List.set_cons_zero, List.set_cons_succ, AV.cellsOf, splice_zero, splice_succ, Nat.zero_add, Nat.reduceAdd]); rfl) ?_
  refine J.seq ?_
  refine J.region_lit ?_
  refine JL.q rfl rfl rfl (QW.lss (.tmp rfl) (.tmp rfl)) ?_
  refine JL.nil ?_
  refine thenQ.n ?_
  refine J.seq ?_
  refine J.cond (.tmp rfl) (fun c1 => ?_) (fun c1 => ?_)
  · skip
    have hlt : j < l.length := by simpa [EvT.css_length] using c1
    refine J.skip ?_
    refine thenQ.n ?_
    refine J.seq ?_
    refine J.block ?_
    refine J.seq ?_
    refine J.region_lit ?_
    refine JL.q rfl rfl rfl (QW.move (.tmp rfl)) ?_
    refine JL.q rfl rfl rfl (QW.assign (.tmp rfl)) ?_
    refine JL.nil ?_
    refine thenQ.n ?_
    refine J.seq ?_
    refine J.region_lit ?_
    refine JL.q rfl rfl rfl (QW.move (.tmp rfl)) ?_
    refine JL.q rfl rfl rfl (QW.move (.tmp rfl)) ?_
    refine JL.q rfl rfl rfl (QW.move (.tmp rfl)) ?_
    refine JL.q rfl rfl rfl (QW.index_sl sl56 ty70 rfl (.tmp rfl) (.tmp rfl) (by first | rfl | omega | (simp; done)) (by exact EvT.css_getE _ hlt)) ?_
    refine JL.q rfl rfl rfl (by first | exact QW.load_ref ty70 (.tmp rfl) rfl rfl | exact QW.load_ref ty70 (.tmp rfl) (take_at0 (EvT.cs_length _ _) rfl) (EvT.cs_length _ _)) ?_
    refine JL.q rfl rfl rfl (QW.callV hg (.tmp rfl) (.cons (.tmp rfl) .nil) rfl (hp _ (List.getElem_mem hlt))) ?_
    refine JL.nil ?_
    refine thenQ.n ?_
    refine J.cond (.tmp rfl) (fun c2 => ?_) (fun c2 => ?_)
    · skip
      refine J.seq ?_
      refine J.region_lit ?_
      refine JL.q rfl rfl rfl (QW.move (.tmp rfl)) ?_
      refine JL.q rfl rfl rfl (QW.assign (.tmp rfl)) ?_
      refine JL.nil ?_
      refine thenQ.n ?_
      refine J.ret ?_
      refine blkQ.r ?_
      refine thenQ.r ?_
      refine thenQ.r ?_
      refine blkQ.r ?_
      refine thenQ.r ?_
      exact ⟨_, selP [] _, _, RetEv.one rfl (REv.tmp rfl (.refl _)), rfl, sel_perm [] _, ⟨by rw [hi, idxF_drop p hlt, c2]; rfl, rfl⟩⟩
    · skip
      refine J.skip ?_
      refine blkQ.n ?_
      refine thenQ.n ?_
      refine J.region_lit ?_
      refine JL.q rfl rfl rfl (QW.add (.tmp rfl) .const (by first | exact w64n (by first | rfl | omega | (simp; done)) (by omega) | exact w64 (by omega) | rfl)) ?_
      refine JL.q rfl rfl rfl (QW.move (.tmp rfl)) ?_
      refine JL.nil ?_
      refine thenQ.n ?_
      rw [idxF_drop p hlt, c2] at hi
      exact ⟨j + 1, ⟨hlt, by rw [hi]; simp⟩, by omega, Wk.re (.cons rfl (.refl _) (.cons rfl (.refl _) (.cons rfl (.refl _) (.cons rfl (.refl _) .nil)))) (Reown.refl _) (fun _ h => by first | exact h | simp [h])⟩
  · skip
    have hge : l.length ≤ j := by simpa [EvT.css_length] using c1
    refine J.exit ?_
    refine thenQ.x ?_
    refine thenQ.x ?_
    refine blkQ.hit ?_
    refine thenQ.n ?_
    refine J.seq ?_
    refine J.region_lit ?_
    refine JL.q rfl rfl rfl (QW.assign .const) ?_
    refine JL.nil ?_
    refine thenQ.n ?_
    refine J.ret ?_
    exact ⟨_, selP [] _, _, RetEv.one rfl (REv.tmp rfl (.refl _)), rfl, sel_perm [] _, ⟨by rw [hi, List.drop_of_length_le hge]; rfl, rfl⟩⟩

theorem containsEv_ok {fr c : Bool} {l : List EvT} {g : FuncId} (hl : EvT.wfs l) (hg : goFn Try.prog g = true) (p : EvT → Bool) (hp : ∀ e ∈ l, Fn Try.prog g [.agg (e.cs fr)] (.c (.bool (p e)))) :
    Fn Try.prog 93 [.sl fr c eEv (EvT.css fr l), .c (.func (.func g) #[] #[])] (.c (.bool (l.any p))) := by
  refine AC.of_J Try.func93 rfl Try.ntmps93 rfl fun w0 A0 => ?_
  refine J.seq ?_
  refine J.region_lit ?_
  refine JL.q rfl rfl rfl (QW.assign .const) ?_
  refine JL.nil ?_
  refine thenQ.n ?_
  refine J.seq ?_
  refine J.region_lit ?_
  refine JL.q rfl rfl rfl (QW.move (.tmp rfl)) ?_
  refine JL.q rfl rfl rfl (QW.move (.tmp rfl)) ?_
  refine JL.q rfl rfl rfl (QW.call gofn124 (.cons (.tmp rfl) (.cons (.tmp rfl) .nil)) (indexEv_ok hl hg p hp)) ?_
  refine JL.q rfl rfl rfl (QW.geq (.tmp rfl) .const) ?_
  refine JL.q rfl rfl rfl (QW.assign (.tmp rfl)) ?_
  refine JL.nil ?_
  refine thenQ.n ?_
  refine J.ret ?_
  exact ⟨_, selP [] _, _, RetEv.one rfl (REv.tmp rfl (.refl _)), rfl, sel_perm [] _, ⟨ret_b (by rw [← idxF_any p l 0 (Int.le_refl _)]), rfl⟩⟩

theorem qcheck_ok {fr : Bool} {q : QT} {ys : List AV} (hq : Qc fr q ys) (hw : q.wf) : Fn Try.prog 50 [.agg ys] (.c (.int .i64 q.err)) := by
  obtain ⟨lim, la, l⟩ := q
  subst hq
  obtain ⟨-, -, hl⟩ := hw
  simp only at hl
  refine AC.of_J Try.func50 rfl Try.ntmps50 rfl fun w0 A0 => ?_
  refine J.seq ?_
  refine J.region_lit ?_
  refine JL.box_agg (.tmp rfl) rfl fun b1 => ?_
  refine JL.q rfl rfl rfl (QW.assign .const) ?_
  refine JL.nil ?_
  refine thenQ.n ?_
  refine J.seq ?_
  refine J.region_lit ?_
  refine JL.q rfl rfl rfl (QW.field_ptr fo58_2 (.tmp rfl) rfl) ?_
  refine JL.q rfl rfl rfl (QW.load_box1 0 ty56 (.tmp rfl) rfl rfl) ?_
  refine JL.q rfl rfl rfl (by first | exact QW.len_sl sl56 (.tmp rfl) | exact QW.len_nil sl56 (.tmp rfl)) ?_
  refine JL.q rfl rfl rfl (QW.assign (.tmp rfl)) ?_
  refine JL.nil ?_
  refine thenQ.n ?_
  refine J.seq ?_
  refine J.region_lit ?_
  refine JL.q rfl rfl rfl (QW.assign .func) ?_
  refine JL.nil ?_
  refine thenQ.n ?_
  refine J.seq ?_
  refine J.seq ?_
  refine J.region_lit ?_
  refine JL.q rfl rfl rfl (QW.field_ptr fo58_0 (.tmp rfl) rfl) ?_
  refine JL.q rfl rfl rfl (QW.load_box1 0 ty3 (.tmp rfl) rfl rfl) ?_
  refine JL.q rfl rfl rfl (QW.move (.tmp rfl)) ?_
  refine JL.q rfl rfl rfl (QW.max2 .const (.tmp rfl)) ?_
  refine JL.q rfl rfl rfl (QW.lss (.tmp rfl) (.tmp rfl)) ?_
  refine JL.q rfl rfl rfl (QW.move (.tmp rfl)) ?_
  refine JL.g rfl rfl rfl rfl rfl (fun hg => (QW.field_ptr fo58_0 (.tmp rfl) rfl)) ?_
  refine JL.g rfl rfl rfl rfl rfl (fun hg => (QW.load_box1 0 ty3 (.when rfl hg) rfl rfl)) ?_
  refine JL.g rfl rfl rfl rfl rfl (fun hg => (QW.gtr (.when rfl hg) .const)) ?_
  refine JL.q rfl rfl rfl (QW.pick_or (.tmp rfl) (.tmp rfl)) ?_
  refine JL.q rfl rfl rfl (QW.move (.tmp rfl)) ?_
  refine JL.g rfl rfl rfl rfl rfl (fun hg => (QW.field_ptr fo58_1 (.tmp rfl) rfl)) ?_
  refine JL.g rfl rfl rfl rfl rfl (fun hg => (QW.load_box1 0 ty3 (.when rfl hg) rfl rfl)) ?_
  refine JL.g rfl rfl rfl rfl rfl (fun hg => (QW.move (.tmp rfl))) ?_
  refine JL.g rfl rfl rfl rfl rfl (fun hg => (QW.lss (.when rfl hg) (.when rfl hg))) ?_
  refine JL.q rfl rfl rfl (QW.pick_or (.tmp rfl) (.tmp rfl)) ?_
  refine JL.q rfl rfl rfl (QW.move (.tmp rfl)) ?_
  refine JL.g rfl rfl rfl rfl rfl (fun hg => (QW.field_ptr fo58_1 (.tmp rfl) rfl)) ?_
  refine JL.g rfl rfl rfl rfl rfl (fun hg => (QW.load_box1 0 ty3 (.when rfl hg) rfl rfl)) ?_
  refine JL.g rfl rfl rfl rfl rfl (fun hg => (QW.gtr (.when rfl hg) .const)) ?_
  refine JL.q rfl rfl rfl (QW.pick_or (.tmp rfl) (.tmp rfl)) ?_
  refine JL.q rfl rfl rfl (QW.move (.tmp rfl)) ?_
  refine JL.g rfl rfl rfl rfl rfl (fun hg => (QW.field_ptr fo58_2 (.tmp rfl) rfl)) ?_
  refine JL.g rfl rfl rfl rfl rfl (fun hg => (QW.load_box1 0 ty56 (.when rfl hg) rfl rfl)) ?_
  refine JL.g rfl rfl rfl rfl rfl (fun hg => (QW.move (.tmp rfl))) ?_
  refine JL.g rfl rfl rfl rfl rfl (fun hg => (QW.call gofn93 (.cons (.when rfl hg) (.cons (.when rfl hg) .nil)) (containsEv_ok hl gofn92 (fun e => !evOk e) (fun e he => odd_ok Ec.self (hl.2 e he))))) ?_
  refine JL.q rfl rfl rfl (QW.pick_or (.tmp rfl) (.tmp rfl)) ?_
  refine JL.nil ?_
  refine thenQ.n ?_
  refine J.cond (.tmp rfl) (fun c1 => ?_) (fun c1 => ?_)
  · skip
    refine J.seq ?_
    refine J.region_lit ?_
    refine JL.q rfl rfl rfl (QW.assign .const) ?_
    refine JL.nil ?_
    refine thenQ.n ?_
    refine J.ret ?_
    refine thenQ.r ?_
    exact ⟨_, selP [.k] _, _, RetEv.one rfl (REv.tmp rfl (.refl _)), rfl, sel_perm [.k] _, ⟨by congr 3; unfold QT.err QT.ok; simp [EvT.css_length] at *; grind, rfl⟩⟩
  · skip
    refine J.skip ?_
    refine thenQ.n ?_
    refine J.seq ?_
    refine J.region_lit ?_
    refine JL.q rfl rfl rfl (QW.assign .const) ?_
    refine JL.nil ?_
    refine thenQ.n ?_
    refine J.ret ?_
    exact ⟨_, selP [.k] _, _, RetEv.one rfl (REv.tmp rfl (.refl _)), rfl, sel_perm [.k] _, ⟨by congr 3; unfold QT.err QT.ok; simp [EvT.css_length] at *; grind, rfl⟩⟩

theorem rqcheck_ok {fr : Bool} {q : QT} {ys : List AV} (hq : Qc fr q ys) (hw : q.wf) : Fn Try.prog 51 [.agg ys] (.c (.int .i64 q.err)) := by
  obtain ⟨lim, la, l⟩ := q
  subst hq
  obtain ⟨-, -, hl⟩ := hw
  simp only at hl
  have hlen := hl.len
  refine AC.of_J Try.func51 rfl Try.ntmps51 rfl fun w0 A0 => ?_
  refine J.seq ?_
  refine J.region_lit ?_
  refine JL.box_agg (.tmp rfl) rfl fun b1 => ?_
  refine JL.q rfl rfl rfl (QW.assign .const) ?_
  refine JL.nil ?_
  refine thenQ.n ?_
  refine J.seq ?_
  refine J.seq ?_
  refine J.region_lit ?_
  refine JL.q rfl rfl rfl (QW.field_ptr fo61_0 (.tmp rfl) rfl) ?_
  refine JL.q rfl rfl rfl (QW.load_box1 0 ty3 (.tmp rfl) rfl rfl) ?_
  refine JL.q rfl rfl rfl (QW.lss (.tmp rfl) .const) ?_
  refine JL.q rfl rfl rfl (QW.move (.tmp rfl)) ?_
  refine JL.g rfl rfl rfl rfl rfl (fun hg => (QW.field_ptr fo61_0 (.tmp rfl) rfl)) ?_
  refine JL.g rfl rfl rfl rfl rfl (fun hg => (QW.load_box1 0 ty3 (.when rfl hg) rfl rfl)) ?_
  refine JL.g rfl rfl rfl rfl rfl (fun hg => (QW.gtr (.when rfl hg) .const)) ?_
  refine JL.q rfl rfl rfl (QW.pick_or (.tmp rfl) (.tmp rfl)) ?_
  refine JL.q rfl rfl rfl (QW.move (.tmp rfl)) ?_
  refine JL.g rfl rfl rfl rfl rfl (fun hg => (QW.field_ptr fo61_2 (.tmp rfl) rfl)) ?_
  refine JL.g rfl rfl rfl rfl rfl (fun hg => (QW.load_box1 0 ty56 (.when rfl hg) rfl rfl)) ?_
  refine JL.g rfl rfl rfl rfl rfl (fun hg => (by first | exact QW.len_sl sl56 (.when rfl hg) | exact QW.len_nil sl56 (.when rfl hg))) ?_
  refine JL.g rfl rfl rfl rfl rfl (fun hg => (QW.field_ptr fo61_0 (.tmp rfl) rfl)) ?_
  refine JL.g rfl rfl rfl rfl rfl (fun hg => (QW.load_box1 0 ty3 (.when rfl hg) rfl rfl)) ?_
  refine JL.g rfl rfl rfl rfl rfl (fun hg => (QW.gtr (.when rfl hg) (.when rfl hg))) ?_
  refine JL.q rfl rfl rfl (QW.pick_or (.tmp rfl) (.tmp rfl)) ?_
  refine JL.q rfl rfl rfl (QW.move (.tmp rfl)) ?_
  refine JL.g rfl rfl rfl rfl rfl (fun hg => (QW.field_ptr fo61_1 (.tmp rfl) rfl)) ?_
  refine JL.g rfl rfl rfl rfl rfl (fun hg => (QW.load_box1 0 ty3 (.when rfl hg) rfl rfl)) ?_
  refine JL.g rfl rfl rfl rfl rfl (fun hg => (QW.field_ptr fo61_2 (.tmp rfl) rfl)) ?_
  refine JL.g rfl rfl rfl rfl rfl (fun hg => (QW.load_box1 0 ty56 (.when rfl hg) rfl rfl)) ?_
  refine JL.g rfl rfl rfl rfl rfl (fun hg => (by first | exact QW.len_sl sl56 (.when rfl hg) | exact QW.len_nil sl56 (.when rfl hg))) ?_
  refine JL.g rfl rfl rfl rfl rfl (fun hg => (QW.lss (.when rfl hg) (.when rfl hg))) ?_
  refine JL.q rfl rfl rfl (QW.pick_or (.tmp rfl) (.tmp rfl)) ?_
  refine JL.q rfl rfl rfl (QW.move (.tmp rfl)) ?_
  refine JL.g rfl rfl rfl rfl rfl (fun hg => (QW.field_ptr fo61_1 (.tmp rfl) rfl)) ?_
  refine JL.g rfl rfl rfl rfl rfl (fun hg => (QW.load_box1 0 ty3 (.when rfl hg) rfl rfl)) ?_
  refine JL.g rfl rfl rfl rfl rfl (fun hg => (QW.gtr (.when rfl hg) .const)) ?_
  refine JL.q rfl rfl rfl (QW.pick_or (.tmp rfl) (.tmp rfl)) ?_
  refine JL.nil ?_
  refine thenQ.n ?_
  refine J.cond (.tmp rfl) (fun c1 => ?_) (fun c1 => ?_)
  · skip
    skip
    refine J.seq ?_
    refine J.region_lit ?_
    refine JL.q rfl rfl rfl (QW.assign .const) ?_
    refine JL.nil ?_
    refine thenQ.n ?_
    refine J.ret ?_
    refine thenQ.r ?_
    exact ⟨_, selP [.k] _, _, RetEv.one rfl (REv.tmp rfl (.refl _)), rfl, sel_perm [.k] _, ⟨by congr 3; unfold QT.err QT.ok; simp [EvT.css_length] at *; grind, rfl⟩⟩
  · skip
    simp [EvT.css_length] at c1
    refine J.skip ?_
    refine thenQ.n ?_
    refine J.seq ?_
    refine J.seq ?_
    refine J.region_lit ?_
    refine JL.q rfl rfl rfl (QW.assign .const) ?_
    refine JL.nil ?_
    refine thenQ.n ?_
    refine J.block ?_
    refine J.loopK (ι := Nat) [1] (fun j => [(3, .c (.int .i64 (j : Int)))]) (fun _ oo => oo) (fun j => j ≤ l.length ∧ (l.take j).all evOk = true) (fun j => l.length - j) 0 (⟨Nat.zero_le _, rfl⟩) (Wk.re (.cons rfl (.refl _) (.cons rfl (.refl _) .nil)) (Reown.refl _) (fun _ h => by first | exact h | simp [h])) ?_
    intro j ⟨hj, ha⟩
    refine J.conv (by (try simp only [stepsO, List.map_cons, List.map_nil, valO, nthO, curO, mrg, List.reverse_cons, List.reverse_nil, List.nil_append, List.cons_append, List.append_nil, List.getElem?_cons_zero, List.getElem?_cons_succ, Option.map_some, Option.getD_some, List.set_cons_zero, List.set_cons_succ, AV.cellsOf, splice_zero, splice_succ, Nat.zero_add, Nat.reduceAdd]); rfl) ?_
    refine J.seq ?_
    refine J.seq ?_
    refine J.region_lit ?_
    refine JL.q rfl rfl rfl (QW.move (.tmp rfl)) ?_
    refine JL.q rfl rfl rfl (QW.field_ptr fo61_2 (.tmp rfl) rfl) ?_
    refine JL.q rfl rfl rfl (QW.load_box1 0 ty56 (.tmp rfl) rfl rfl) ?_
    refine JL.q rfl rfl rfl (by first | exact QW.len_sl sl56 (.tmp rfl) | exact QW.len_nil sl56 (.tmp rfl)) ?_
    refine JL.q rfl rfl rfl (QW.lss (.tmp rfl) (.tmp rfl)) ?_
    refine JL.nil ?_
    refine thenQ.n ?_
    refine J.cond (.tmp rfl) (fun c2 => ?_) (fun c2 => ?_)
    · skip
      have hlt : j < l.length := by simpa [EvT.css_length] using c2
      refine J.skip ?_
      refine thenQ.n ?_
      refine J.seq ?_
      refine J.block ?_
      refine J.seq ?_
      refine J.region_lit ?_
      refine JL.q rfl rfl rfl (QW.field_ptr fo61_2 (.tmp rfl) rfl) ?_
      refine JL.q rfl rfl rfl (QW.load_box1 0 ty56 (.tmp rfl) rfl rfl) ?_
      refine JL.q rfl rfl rfl (QW.move (.tmp rfl)) ?_
      refine JL.q rfl rfl rfl (QW.index_sl sl56 ty70 rfl (.tmp rfl) (.tmp rfl) (by first | rfl | omega | (simp; done)) (by exact EvT.css_getE _ hlt)) ?_
      refine JL.q rfl rfl rfl (QW.field_ref fo70_0 (.tmp rfl) rfl) ?_
      refine JL.q rfl rfl rfl (QW.load_ref1 ty9 (.tmp rfl) rfl) ?_
      refine JL.q rfl rfl rfl (QW.call gofn89 (.cons (.tmp rfl) .nil) (rname_ok _)) ?_
      refine JL.q rfl rfl rfl (QW.not (.tmp rfl)) ?_
      refine JL.q rfl rfl rfl (QW.move (.tmp rfl)) ?_
      refine JL.g rfl rfl rfl rfl rfl (fun hg => (QW.field_ptr fo61_2 (.tmp rfl) rfl)) ?_
      refine JL.g rfl rfl rfl rfl rfl (fun hg => (QW.load_box1 0 ty56 (.when rfl hg) rfl rfl)) ?_
      refine JL.g rfl rfl rfl rfl rfl (fun hg => (QW.move (.tmp rfl))) ?_
      refine JL.g rfl rfl rfl rfl rfl (fun hg => (QW.index_sl sl56 ty70 rfl (.when rfl hg) (.when rfl hg) (by first | rfl | omega | (simp; done)) (by exact EvT.css_getE _ hlt))) ?_
      refine JL.g rfl rfl rfl rfl rfl (fun hg => (QW.field_ref fo70_1 (.when rfl hg) rfl)) ?_
      refine JL.g rfl rfl rfl rfl rfl (fun hg => (by first | exact QW.load_ref ty26 (.when rfl hg) rfl rfl | exact QW.load_ref ty26 (.when rfl hg) (take_at0 (V.cs_length _ _) rfl) (V.cs_length _ _))) ?_
      refine JL.g rfl rfl rfl rfl rfl (fun hg => (QW.call gofn25 (.cons (.when rfl hg) .nil) (rcheck_ok Vc.self (hl.2 _ (List.getElem_mem _)).arg))) ?_
      refine JL.g rfl rfl rfl rfl rfl (fun hg => (QW.neq (.when rfl hg) .const)) ?_
      refine JL.q rfl rfl rfl (QW.pick_or (.tmp rfl) (.tmp rfl)) ?_
      refine JL.nil ?_
      refine thenQ.n ?_
      refine J.cond (.tmp rfl) (fun c3 => ?_) (fun c3 => ?_)
      · skip
        skip
        refine J.seq ?_
        refine J.region_lit ?_
        refine JL.q rfl rfl rfl (QW.assign .const) ?_
        refine JL.nil ?_
        refine thenQ.n ?_
        refine J.ret ?_
        refine blkQ.r ?_
        refine thenQ.r ?_
        refine thenQ.r ?_
        refine blkQ.r ?_
        refine thenQ.r ?_
        exact ⟨_, selP [.k] _, _, RetEv.one rfl (REv.tmp rfl (.refl _)), rfl, sel_perm [.k] _, ⟨by rw [QT.err, if_neg]; unfold QT.ok; simp only [Bool.and_eq_true, not_and]; intro _ h; have := (List.all_eq_true.1 h) l[j] (List.getElem_mem hlt); simp at c3; unfold evOk at this; simp at this; grind, rfl⟩⟩
      · skip
        skip
        refine J.skip ?_
        refine blkQ.n ?_
        refine thenQ.n ?_
        refine J.region_lit ?_
        refine JL.q rfl rfl rfl (QW.move (.tmp rfl)) ?_
        refine JL.q rfl rfl rfl (QW.add (.tmp rfl) .const (by first | exact w64n (by first | rfl | omega | (simp; done)) (by omega) | exact w64 (by omega) | rfl)) ?_
        refine JL.q rfl rfl rfl (QW.assign (.tmp rfl)) ?_
        refine JL.nil ?_
        refine thenQ.n ?_
        exact ⟨j + 1, ⟨hlt, by rw [List.take_succ_eq_append_getElem hlt, List.all_append, ha]; simp at c3; simp [evOk, c3]⟩, by omega, Wk.re (.cons rfl (.refl _) (.cons rfl (.refl _) .nil)) (Reown.refl _) (fun _ h => by first | exact h | simp [h])⟩
    · skip
      have hge : l.length ≤ j := by simpa [EvT.css_length] using c2
      refine J.exit ?_
      refine thenQ.x ?_
      refine thenQ.x ?_
      refine blkQ.hit ?_
      refine thenQ.n ?_
      refine J.seq ?_
      refine J.region_lit ?_
      refine JL.q rfl rfl rfl (QW.assign .const) ?_
      refine JL.nil ?_
      refine thenQ.n ?_
      refine J.ret ?_
      exact ⟨_, selP [.k] _, _, RetEv.one rfl (REv.tmp rfl (.refl _)), rfl, sel_perm [.k] _, ⟨by rw [QT.err, if_pos]; rw [List.take_of_length_le hge] at ha; unfold QT.ok; simp [ha]; omega, rfl⟩⟩

end Go.Proofs.Ytkiankpmkglhcaa.J

/- Walks: lists of events: are two one; copies. -/
namespace Go.Proofs.Ytkiankpmkglhcaa.J
open Go Go.RowKit
set_option linter.unusedVariables false
set_option linter.unusedSimpArgs false
set_option maxRecDepth 10000
set_option maxHeartbeats 4000000

theorem sameEvents_ok {fr fr2 c c2 : Bool} {a b : List EvT} (ha : EvT.wfs a) (hb : EvT.wfs b) : Fn Try.prog 44 [.sl fr c eEv (EvT.css fr a), .sl fr2 c2 eEv (EvT.css fr2 b)] (.c (.bool (decide (a = b)))) := by
  have hal := ha.len
  have hbl := hb.len
  refine AC.of_J Try.func44 rfl Try.ntmps44 rfl fun w0 A0 => ?_
  refine J.seq ?_
  refine J.region_lit ?_
  refine JL.q rfl rfl rfl (QW.assign .const) ?_
  refine JL.nil ?_
  refine thenQ.n ?_
  refine J.seq ?_
  refine J.seq ?_
  refine J.region_lit ?_
  refine JL.q rfl rfl rfl (QW.move (.tmp rfl)) ?_
  refine JL.q rfl rfl rfl (by first | exact QW.len_sl sl56 (.tmp rfl) | exact QW.len_nil sl56 (.tmp rfl)) ?_
  refine JL.q rfl rfl rfl (QW.move (.tmp rfl)) ?_
  refine JL.q rfl rfl rfl (by first | exact QW.len_sl sl56 (.tmp rfl) | exact QW.len_nil sl56 (.tmp rfl)) ?_
  refine JL.q rfl rfl rfl (QW.neq (.tmp rfl) (.tmp rfl)) ?_
  refine JL.nil ?_
  refine thenQ.n ?_
  refine J.cond (.tmp rfl) (fun c1 => ?_) (fun c1 => ?_)
  · skip
    simp [EvT.css_length] at c1
    refine J.seq ?_
    refine J.region_lit ?_
    refine JL.q rfl rfl rfl (QW.assign .const) ?_
    refine JL.nil ?_
    refine thenQ.n ?_
    refine J.ret ?_
    refine thenQ.r ?_
    exact ⟨_, selP [] _, _, RetEv.one rfl (REv.tmp rfl (.refl _)), rfl, sel_perm [] _, ⟨ret_b (by simp; intro e; subst e; exact c1 rfl), rfl⟩⟩
  · skip
    have hl : a.length = b.length := by simp [EvT.css_length] at c1; omega
    refine J.skip ?_
    refine thenQ.n ?_
    refine J.seq ?_
    refine J.seq ?_
    refine J.region_lit ?_
    refine JL.q rfl rfl rfl (QW.assign .const) ?_
    refine JL.nil ?_
    refine thenQ.n ?_
    refine J.block ?_
    refine J.loopK (ι := Nat) [0, 1] (fun k => [(5, .c (.int .i64 (k : Int)))]) (fun _ oo => oo) (fun k => k ≤ a.length ∧ a.take k = b.take k) (fun k => a.length - k) 0 (⟨Nat.zero_le _, rfl⟩) (Wk.re (.cons rfl (.refl _) (.cons rfl (.refl _) (.cons rfl (.refl _) .nil))) (Reown.refl _) (fun _ h => by first | exact h | simp [h])) ?_
    intro k ⟨hk, heqs⟩
    refine J.conv (by (try simp only [stepsO, List.map_cons, List.map_nil, valO, nthO, curO, mrg, List.reverse_cons, List.reverse_nil, List.nil_append, List.cons_append, List.append_nil, List.getElem?_cons_zero, List.getElem?_cons_succ, Option.map_some, Option.getD_some, List.set_cons_zero, List.set_cons_succ, AV.cellsOf, splice_zero, splice_succ, Nat.zero_add, Nat.reduceAdd]); rfl) ?_
    refine J.seq ?_
    refine J.seq ?_
    refine J.region_lit ?_
    refine JL.q rfl rfl rfl (QW.move (.tmp rfl)) ?_
    refine JL.q rfl rfl rfl (QW.move (.tmp rfl)) ?_
    refine JL.q rfl rfl rfl (by first | exact QW.len_sl sl56 (.tmp rfl) | exact QW.len_nil sl56 (.tmp rfl)) ?_
    refine JL.q rfl rfl rfl (QW.lss (.tmp rfl) (.tmp rfl)) ?_
    refine JL.nil ?_
    refine thenQ.n ?_
    refine J.cond (.tmp rfl) (fun c2 => ?_) (fun c2 => ?_)
    · skip
      have hlt : k < a.length := by simpa [EvT.css_length] using c2
      have hlt2 : k < b.length := by omega
      refine J.skip ?_
      refine thenQ.n ?_
      refine J.seq ?_
      refine J.block ?_
      refine J.seq ?_
      refine J.region_tailK 22 mixed (by kernel_rfl) (by kernel_rfl) (by kernel_rfl) rfl ?_
      refine .cons [] rfl rfl rfl (.q rfl (QW.move (.tmp rfl))) ?_
      refine .cons [] rfl rfl rfl (.q rfl (QW.move (.tmp rfl))) ?_
      refine .cons [17, 18] rfl rfl rfl (.q rfl (QW.index_sl sl56 ty70 rfl (.tmp rfl) (.tmp rfl) (by first | rfl | omega | (simp; done)) (by first | exact EvT.css_getE _ hlt | exact EvT.css_getE _ hlt2))) ?_
      refine .cons [19] rfl rfl rfl (.q rfl (QW.field_ref fo70_0 (.tmp rfl) rfl)) ?_
      refine .cons [20] rfl rfl rfl (.q rfl (QW.load_ref1 ty9 (.tmp rfl) rfl)) ?_
      refine .cons [] rfl rfl rfl (.q rfl (QW.move (.tmp rfl))) ?_
      refine .cons [] rfl rfl rfl (.q rfl (QW.move (.tmp rfl))) ?_
      refine .cons [22, 23] rfl rfl rfl (.q rfl (QW.index_sl sl56 ty70 rfl (.tmp rfl) (.tmp rfl) (by first | rfl | omega | (simp; done)) (by first | exact EvT.css_getE _ hlt | exact EvT.css_getE _ hlt2))) ?_
      refine .cons [24] rfl rfl rfl (.q rfl (QW.field_ref fo70_0 (.tmp rfl) rfl)) ?_
      refine .cons [25] rfl rfl rfl (.q rfl (QW.load_ref1 ty9 (.tmp rfl) rfl)) ?_
      refine .cons [21, 26] rfl rfl rfl (.q rfl (QW.neq_s (.tmp rfl) (.tmp rfl))) ?_
      refine .cons [27] rfl rfl rfl (.q rfl (QW.move (.tmp rfl))) ?_
      refine .cons [28] rfl rfl rfl (.g rfl rfl rfl (fun hg => (QW.move (.tmp rfl)))) ?_
      refine .cons [28] rfl rfl rfl (.g rfl rfl rfl (fun hg => (QW.move (.tmp rfl)))) ?_
      refine .cons [29, 30, 28] rfl rfl rfl (.g rfl rfl rfl (fun hg => (QW.index_sl sl56 ty70 rfl (.when rfl hg) (.when rfl hg) (by first | rfl | omega | (simp; done)) (by first | exact EvT.css_getE _ hlt | exact EvT.css_getE _ hlt2)))) ?_
      refine .cons [31, 28] rfl rfl rfl (.g rfl rfl rfl (fun hg => (QW.field_ref fo70_1 (.when rfl hg) rfl))) ?_
      refine .cons [32, 28] rfl rfl rfl (.g rfl rfl rfl (fun hg => (by first | exact QW.load_ref ty26 (.when rfl hg) rfl rfl | exact QW.load_ref ty26 (.when rfl hg) (take_at0 (V.cs_length _ _) rfl) (V.cs_length _ _)))) ?_
      refine .cons [28] rfl rfl rfl (.g rfl rfl rfl (fun hg => (QW.move (.tmp rfl)))) ?_
      refine .cons [28] rfl rfl rfl (.g rfl rfl rfl (fun hg => (QW.move (.tmp rfl)))) ?_
      refine .cons [34, 35, 28] rfl rfl rfl (.g rfl rfl rfl (fun hg => (QW.index_sl sl56 ty70 rfl (.when rfl hg) (.when rfl hg) (by first | rfl | omega | (simp; done)) (by first | exact EvT.css_getE _ hlt | exact EvT.css_getE _ hlt2)))) ?_
      refine .cons [36, 28] rfl rfl rfl (.g rfl rfl rfl (fun hg => (QW.field_ref fo70_1 (.when rfl hg) rfl))) ?_
      refine .cons [37, 28] rfl rfl rfl (.g rfl rfl rfl (fun hg => (by first | exact QW.load_ref ty26 (.when rfl hg) rfl rfl | exact QW.load_ref ty26 (.when rfl hg) (take_at0 (V.cs_length _ _) rfl) (V.cs_length _ _)))) ?_
      refine .nil ?_
      refine JL.g rfl rfl rfl rfl rfl (fun hg => (QW.call gofn26 (.cons (.when rfl hg) (.cons (.when rfl hg) .nil)) (sameValue_ok Vc.self Vc.self (ha.2 _ (List.getElem_mem _)).arg (hb.2 _ (List.getElem_mem _)).arg))) ?_
      refine JL.g rfl rfl rfl rfl rfl (fun hg => (QW.not (.when rfl hg))) ?_
      refine JL.q rfl rfl rfl (QW.pick_or (.tmp rfl) (.tmp rfl)) ?_
      refine JL.nil ?_
      refine thenQ.n ?_
      refine J.cond (.tmp rfl) (fun c3 => ?_) (fun c3 => ?_)
      · skip
        have hne : a[k] ≠ b[k] := by
          intro e; rw [e] at c3; simp [V.same_refl] at c3
        refine J.seq ?_
        refine J.region_lit ?_
        refine JL.q rfl rfl rfl (QW.assign .const) ?_
        refine JL.nil ?_
        refine thenQ.n ?_
        refine J.ret ?_
        refine blkQ.r ?_
        refine thenQ.r ?_
        refine thenQ.r ?_
        refine blkQ.r ?_
        refine thenQ.r ?_
        exact ⟨_, selP [] _, _, RetEv.one rfl (REv.tmp rfl (.refl _)), rfl, sel_perm [] _, ⟨ret_b (by simp; intro e; subst e; exact hne rfl), rfl⟩⟩
      · skip
        have heq : a[k] = b[k] := by
          simp [V.same_iff] at c3
          cases hx : a[k]; cases hy : b[k]; rw [hx, hy] at c3; simpa using c3
        refine J.skip ?_
        refine blkQ.n ?_
        refine thenQ.n ?_
        refine J.region_lit ?_
        refine JL.q rfl rfl rfl (QW.move (.tmp rfl)) ?_
        refine JL.q rfl rfl rfl (QW.add (.tmp rfl) .const (by first | exact w64n (by first | rfl | omega | (simp; done)) (by omega) | exact w64 (by omega) | rfl)) ?_
        refine JL.q rfl rfl rfl (QW.assign (.tmp rfl)) ?_
        refine JL.nil ?_
        refine thenQ.n ?_
        exact ⟨k + 1, ⟨hlt, (list_split hl heqs hlt).2 heq⟩, by omega, Wk.re (.cons rfl (.refl _) (.cons rfl (.refl _) (.cons rfl (.refl _) .nil))) (Reown.refl _) (fun _ h => by first | exact h | simp [h])⟩
    · skip
      have hge : a.length ≤ k := by simpa [EvT.css_length] using c2
      refine J.exit ?_
      refine thenQ.x ?_
      refine thenQ.x ?_
      refine blkQ.hit ?_
      refine thenQ.n ?_
      refine J.seq ?_
      refine J.region_lit ?_
      refine JL.q rfl rfl rfl (QW.assign .const) ?_
      refine JL.nil ?_
      refine thenQ.n ?_
      refine J.ret ?_
      exact ⟨_, selP [] _, _, RetEv.one rfl (REv.tmp rfl (.refl _)), rfl, sel_perm [] _, ⟨ret_b (by simp; rw [List.take_of_length_le hge, List.take_of_length_le (by omega)] at heqs; exact heqs), rfl⟩⟩

theorem copyEvents_ok {fr c : Bool} {l : List EvT} (hl : EvT.wfs l) : AC Try.prog 88 [] [.sl fr c eEv (EvT.css fr l)] (RetR (EvsR l)) := by
  have hlen := hl.len
  have hl1 := hl.1
  refine AC.of_J Try.func88 rfl Try.ntmps88 rfl fun w0 A0 => ?_
  refine J.seq ?_
  refine J.region_lit ?_
  refine JL.q rfl rfl rfl (QW.assign .const) ?_
  refine JL.nil ?_
  refine thenQ.n ?_
  refine J.seq ?_
  refine J.region_lit ?_
  refine JL.q rfl rfl rfl (QW.assign .const) ?_
  refine JL.nil ?_
  refine thenQ.n ?_
  refine J.seq ?_
  refine J.seq ?_
  refine J.region_lit ?_
  refine JL.q rfl rfl rfl (QW.assign .const) ?_
  refine JL.nil ?_
  refine thenQ.n ?_
  refine J.block ?_
  refine J.reown (Reown.nilArrE eEv _) ?_
  refine J.reown (Reown.nilGrpE _) ?_
  refine J.loopK (ι := Nat × Value × List (List AV) × List Value × Own) [0, 2] (fun ⟨j, v, cs, us, o⟩ => [(4, .c (.int .i64 (j : Int))), (3, .c v)]) (fun ⟨j, v, cs, us, o⟩ oo => List.set (List.set oo 0 (.arr v eEv cs)) 1 (o)) (fun ⟨j, v, cs, us, o⟩ => j ≤ l.length ∧ ListTr eEv (EvT.css true (l.take j)) cs us o) (fun ⟨j, v, cs, us, o⟩ => l.length - j) ⟨0, .slice none 0 0, [], [], .grp []⟩ (⟨Nat.zero_le _, .nil _⟩) (Wk.re (.cons rfl (.refl _) (.cons rfl (.refl _) (.cons rfl (.refl _) (.cons rfl (.refl _) .nil)))) (Reown.refl _) (fun _ h => by first | exact h | simp [h])) ?_
  intro ⟨j, v, cs, us, o⟩ ⟨hj, hK⟩
  refine J.conv (by (try simp only [stepsO, List.map_cons, List.map_nil, valO, nthO, curO, mrg, List.reverse_cons, List.reverse_nil, List.nil_append, List.cons_append, List.append_nil, List.getElem?_cons_zero, List.getElem?_cons_succ, Option.map_some, Option.getD_some, List.set_cons_zero, List.set_cons_succ, AV.cellsOf, splice_zero, splice_succ, Nat.zero_add, Nat.reduceAdd]); rfl) ?_
  refine J.seq ?_
  refine J.seq ?_
  refine J.region_lit ?_
  refine JL.q rfl rfl rfl (QW.move (.tmp rfl)) ?_
  refine JL.q rfl rfl rfl (QW.move (.tmp rfl)) ?_
  refine JL.q rfl rfl rfl (by first | exact QW.len_sl sl56 (.tmp rfl) | exact QW.len_nil sl56 (.tmp rfl)) ?_
  refine JL.q rfl rfl rfl (QW.lss (.tmp rfl) (.tmp rfl)) ?_
  refine JL.nil ?_
  refine thenQ.n ?_
  refine J.cond (.tmp rfl) (fun c1 => ?_) (fun c1 => ?_)
  · skip
    have hlt : j < l.length := by simpa [EvT.css_length] using c1
    refine J.skip ?_
    refine thenQ.n ?_
    refine J.seq ?_
    refine J.block ?_
    refine J.region_outK 14 3 (fun os_ ow_ x_ o_ => match os_ with | [] => (∃ o2_, (CopyR (l[j]'hlt).arg) x_ o2_ ∧ o_ = mrg [] o2_ ow_) | [(x0_, _)] => (x_ = .agg (.c (str l[j].name) :: x0_.cellsOf) ∧ o_ = ow_) | [(x1_, _), (x0_, _)] => (x_ = .sl true true eEv [x1_.cellsOf] ∧ o_ = ow_) | _ => False) mixed (by kernel_rfl) (by kernel_rfl) (by kernel_rfl) rfl ?_
    refine OutK.quiet [] rfl rfl rfl (fun qs_ qv_ ql_ => (.q rfl (QW.move (.tmp rfl)))) ?_
    refine OutK.quiet [] rfl rfl rfl (fun qs_ qv_ ql_ => (.q rfl (QW.move (.tmp rfl)))) ?_
    refine OutK.quiet [] rfl rfl rfl (fun qs_ qv_ ql_ => (.q rfl (QW.move (.tmp rfl)))) ?_
    refine OutK.quiet [12, 13] rfl rfl rfl (fun qs_ qv_ ql_ => (.q rfl (QW.index_sl sl56 ty70 rfl (.tmp rfl) (.tmp rfl) (by first | rfl | omega | (simp; done)) (by exact EvT.css_getE _ hlt)))) ?_
    refine OutK.quiet [14] rfl rfl rfl (fun qs_ qv_ ql_ => (.q rfl (QW.field_ref fo70_0 (.tmp rfl) rfl))) ?_
    refine OutK.quiet [15] rfl rfl rfl (fun qs_ qv_ ql_ => (.q rfl (QW.load_ref1 ty9 (.tmp rfl) rfl))) ?_
    refine OutK.quiet [] rfl rfl rfl (fun qs_ qv_ ql_ => (.q rfl (QW.move (.tmp rfl)))) ?_
    refine OutK.quiet [] rfl rfl rfl (fun qs_ qv_ ql_ => (.q rfl (QW.move (.tmp rfl)))) ?_
    refine OutK.quiet [17, 18] rfl rfl rfl (fun qs_ qv_ ql_ => (.q rfl (QW.index_sl sl56 ty70 rfl (.tmp rfl) (.tmp rfl) (by first | rfl | omega | (simp; done)) (by exact EvT.css_getE _ hlt)))) ?_
    refine OutK.quiet [19] rfl rfl rfl (fun qs_ qv_ ql_ => (.q rfl (QW.field_ref fo70_1 (.tmp rfl) rfl))) ?_
    refine OutK.quiet [20] rfl rfl rfl (fun qs_ qv_ ql_ => (.q rfl (by first | exact QW.load_ref ty26 (.tmp rfl) rfl rfl | exact QW.load_ref ty26 (.tmp rfl) (take_at0 (V.cs_length _ _) rfl) (V.cs_length _ _)))) ?_
    refine OutK.loud [21] rfl rfl rfl rfl rfl (fun qs_ qv_ ql_ => by
        obtain rfl : qs_ = [] := List.length_eq_zero_iff.1 ql_
        exact LStepR.callRF (d := 22) [] gofn20 Lent.nil (fun _ => (.cons (.tmp rfl) .nil)) (copyValue_ok Vc.self (hl.2 _ (List.getElem_mem hlt)).arg) (.inl rfl)) ?_
    refine OutK.loud [16, 22] rfl rfl rfl rfl rfl (fun qs_ qv_ ql_ => by
        obtain ⟨⟨y0, p0⟩, qs_, rfl⟩ : ∃ p t, qs_ = p :: t := by (cases qs_ with | nil => simp at ql_ | cons p t => exact ⟨p, t, rfl⟩)
        obtain rfl : qs_ = [] := List.length_eq_zero_iff.1 (by simpa using ql_)
        obtain ⟨hr0, _⟩ := qv_
        obtain ⟨o22, ⟨kv22, iv22, ok22, oi22, rfl, rfl, hV22⟩, rfl⟩ := hr0
        exact LStepR.ofQ (QW.build (idx := [0, 1]) pl70 z70 rfl (.cons (.tmp rfl) (.cons (.tmp rfl) .nil)) rfl rfl rfl rfl) ⟨rfl, rfl⟩) ?_
    refine OutK.loud [23] rfl rfl rfl rfl rfl (fun qs_ qv_ ql_ => by
        obtain ⟨⟨y1, p1⟩, qs_, rfl⟩ : ∃ p t, qs_ = p :: t := by (cases qs_ with | nil => simp at ql_ | cons p t => exact ⟨p, t, rfl⟩)
        simp only [List.length_cons, Nat.add_right_cancel_iff] at ql_
        obtain ⟨⟨y0, p0⟩, qs_, rfl⟩ : ∃ p t, qs_ = p :: t := by (cases qs_ with | nil => simp at ql_ | cons p t => exact ⟨p, t, rfl⟩)
        obtain rfl : qs_ = [] := List.length_eq_zero_iff.1 (by simpa using ql_)
        obtain ⟨hr1, hr0, _⟩ := qv_
        obtain ⟨o22, ⟨kv22, iv22, ok22, oi22, rfl, rfl, hV22⟩, rfl⟩ := hr0
        obtain ⟨rfl, rfl⟩ := hr1
        exact LStepR.ofQ (QW.buildSlice (idx := [0]) (xs := [(l[j]).raw kv22 iv22]) sl56 el70 z70 rfl (.cons (.tmp rfl) .nil) rfl rfl rfl rfl rfl rfl rfl rfl rfl) ⟨rfl, rfl⟩) ?_
    refine .nil fun qs_ qv_ ql_ => ?_
    obtain ⟨⟨y2, p2⟩, qs_, rfl⟩ : ∃ p t, qs_ = p :: t := by (cases qs_ with | nil => simp at ql_ | cons p t => exact ⟨p, t, rfl⟩)
    simp only [List.length_cons, Nat.add_right_cancel_iff] at ql_
    obtain ⟨⟨y1, p1⟩, qs_, rfl⟩ : ∃ p t, qs_ = p :: t := by (cases qs_ with | nil => simp at ql_ | cons p t => exact ⟨p, t, rfl⟩)
    simp only [List.length_cons, Nat.add_right_cancel_iff] at ql_
    obtain ⟨⟨y0, p0⟩, qs_, rfl⟩ : ∃ p t, qs_ = p :: t := by (cases qs_ with | nil => simp at ql_ | cons p t => exact ⟨p, t, rfl⟩)
    obtain rfl : qs_ = [] := List.length_eq_zero_iff.1 (by simpa using ql_)
    obtain ⟨hr2, hr1, hr0, _⟩ := qv_
    obtain ⟨o22, ⟨kv22, iv22, ok22, oi22, rfl, rfl, hV22⟩, rfl⟩ := hr0
    obtain ⟨rfl, rfl⟩ := hr1
    obtain ⟨rfl, rfl⟩ := hr2
    refine JL.conv (by (try simp only [stepsO, List.map_cons, List.map_nil, valO, nthO, curO, mrg, List.reverse_cons, List.reverse_nil, List.nil_append, List.cons_append, List.append_nil, List.getElem?_cons_zero, List.getElem?_cons_succ, Option.map_some, Option.getD_some, List.set_cons_zero, List.set_cons_succ, AV.cellsOf, splice_zero, splice_succ, Nat.zero_add, Nat.reduceAdd]); rfl) ?_
    refine JL.append 0 sl56 el70 rfl (.tmp rfl) rfl (srcA_sl sl56 (.tmp rfl)) (by have := hK.h2; rw [EvT.css_length, List.length_take] at this; simp; unfold reach at *; omega) rfl fun v25 => ?_
    refine JL.q rfl rfl rfl (QW.assign (.tmp rfl)) ?_
    refine JL.nil ?_
    refine blkQ.n ?_
    refine thenQ.n ?_
    refine J.region_lit ?_
    refine JL.q rfl rfl rfl (QW.move (.tmp rfl)) ?_
    refine JL.q rfl rfl rfl (QW.add (.tmp rfl) .const (by first | exact w64n (by first | rfl | omega | (simp; done)) (by omega) | exact w64 (by omega) | rfl)) ?_
    refine JL.q rfl rfl rfl (QW.assign (.tmp rfl)) ?_
    refine JL.nil ?_
    refine thenQ.n ?_
    exact ⟨⟨j + 1, _, _, _, _⟩, ⟨hlt, by rw [List.take_succ_eq_append_getElem hlt]; exact hK.snocE hV22⟩, by show l.length - (j + 1) < l.length - j; omega, Wk.re (.cons rfl (.refl _) (.cons rfl (.refl _) (.cons rfl (.refl _) (.cons rfl (.refl _) .nil)))) ((Reown.cons (Reown.tri _ _ _ _))) (fun _ h => by first | exact h | simp [h])⟩
  · skip
    have hge : l.length ≤ j := by simpa [EvT.css_length] using c1
    refine J.exit ?_
    refine thenQ.x ?_
    refine thenQ.x ?_
    refine blkQ.hit ?_
    refine thenQ.n ?_
    refine J.seq ?_
    refine J.isSlice 0 rfl fun hs1 => ?_
    refine J.reown (Reown.grp2 _ _ _) ?_
    refine J.region_lit ?_
    refine JL.q rfl rfl rfl (QW.move (.tmp rfl)) ?_
    refine JL.q rfl rfl rfl (QW.assign (.tmp rfl)) ?_
    refine JL.nil ?_
    refine thenQ.n ?_
    refine J.ret ?_
    obtain rfl : j = l.length := by omega
    rw [List.take_length] at hK
    exact ⟨_, selP [.p] _, _, RetEv.one rfl (REv.tmp rfl (.refl _)), rfl, sel_perm [.p] _, ⟨_, rfl, _, _, rfl, hs1, rfl, hK.tr (by rw [EvT.css_length]; exact hl1)⟩⟩

theorem Fn.ofEvs {P : Program} {f : FuncId} {xs : List AV} {l : List EvT} (h : AC P f [] xs (RetR (EvsR l))) : Fn P f xs (evsAV l) :=
  Fn.close h fun x o ⟨v, ov, hx, _, ho, hT⟩ => by
    subst hx ho
    refine ⟨[(v, .sl true false eEv (EvT.css true l))], fun w A hok hb p hp => ?_, .fact (x := .sl true false eEv (EvT.css true l)) (by simp) (.refl _)⟩
    simp only [List.mem_singleton] at hp
    subst hp
    exact hT.rd (hok _ (by simp)) fun b hb' => hb b (by simpa [fps_cons, fps_nil] using hb') true
theorem copyEvents_rd {fr c : Bool} {l : List EvT} (hl : EvT.wfs l) : Fn Try.prog 88 [.sl fr c eEv (EvT.css fr l)] (evsAV l) := .ofEvs (copyEvents_ok hl)

end Go.Proofs.Ytkiankpmkglhcaa.J
