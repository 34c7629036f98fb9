/- Walks: the value package, one part. -/
import Derived.Test.YtkiankpmkglhcaaV0
import Derived.Test.YtkiankpmkglhcaaFacts
import Derived.Test.YtkiankpmkglhcaaWf1
import Derived.Test.YtkiankpmkglhcaaWr1
namespace Go.Proofs.Ytkiankpmkglhcaa.J
open Go Go.RowKit
set_option linter.unusedVariables false
set_option linter.unusedSimpArgs false
set_option maxRecDepth 10000
set_option maxHeartbeats 4000000

theorem key_ok (s : Str) : Fn Try.prog 110 [.c (str s)] (.c (.bool (keyOk s))) := by
  refine AC.of_J Try.func110 rfl Try.ntmps110 rfl fun w0 A0 => ?_
  refine J.seq ?_
  refine J.region_lit ?_
  refine JL.q rfl rfl rfl (QW.assign .const) ?_
  refine JL.nil ?_
  refine thenQ.n ?_
  refine J.seq ?_
  refine J.region_lit ?_
  refine JL.q rfl rfl rfl (QW.move (.tmp rfl)) ?_
  refine JL.q rfl rfl rfl (QW.neq_s (.tmp rfl) .const) ?_
  refine JL.q rfl rfl rfl (QW.move (.tmp rfl)) ?_
  refine JL.g rfl rfl rfl rfl rfl (fun hg => (QW.move (.tmp rfl))) ?_
  refine JL.g rfl rfl rfl rfl rfl (fun hg => (QW.len_s st9 (.when rfl hg))) ?_
  refine JL.g rfl rfl rfl rfl rfl (fun hg => (QW.leq (.when rfl hg) .const)) ?_
  refine JL.q rfl rfl rfl (QW.pick_and (.tmp rfl) (.tmp rfl)) ?_
  refine JL.q rfl rfl rfl (QW.assign (.tmp rfl)) ?_
  refine JL.nil ?_
  refine thenQ.n ?_
  refine J.ret ?_
  exact ⟨_, selP [] _, _, RetEv.one rfl (REv.tmp rfl (.refl _)), rfl, sel_perm [] _, ⟨by simp only [keyOk]; congr 3; rw [Bool.eq_iff_iff]; cases s <;> simp [bne] <;> omega, rfl⟩⟩

theorem rkey_ok (s : Str) : Fn Try.prog 131 [.c (str s)] (.c (.bool (keyOk s))) := by
  refine AC.of_J Try.func131 rfl Try.ntmps131 rfl fun w0 A0 => ?_
  refine J.seq ?_
  refine J.region_lit ?_
  refine JL.q rfl rfl rfl (QW.assign .const) ?_
  refine JL.nil ?_
  refine thenQ.n ?_
  refine J.seq ?_
  refine J.region_lit ?_
  refine JL.q rfl rfl rfl (QW.move (.tmp rfl)) ?_
  refine JL.q rfl rfl rfl (QW.len_s st9 (.tmp rfl)) ?_
  refine JL.q rfl rfl rfl (QW.geq (.tmp rfl) .const) ?_
  refine JL.q rfl rfl rfl (QW.move (.tmp rfl)) ?_
  refine JL.g rfl rfl rfl rfl rfl (fun hg => (QW.move (.tmp rfl))) ?_
  refine JL.g rfl rfl rfl rfl rfl (fun hg => (QW.len_s st9 (.when rfl hg))) ?_
  refine JL.g rfl rfl rfl rfl rfl (fun hg => (QW.leq (.when rfl hg) .const)) ?_
  refine JL.q rfl rfl rfl (QW.pick_and (.tmp rfl) (.tmp rfl)) ?_
  refine JL.q rfl rfl rfl (QW.assign (.tmp rfl)) ?_
  refine JL.nil ?_
  refine thenQ.n ?_
  refine J.ret ?_
  exact ⟨_, selP [] _, _, RetEv.one rfl (REv.tmp rfl (.refl _)), rfl, sel_perm [] _, ⟨by simp only [keyOk]; congr 3; rw [Bool.eq_iff_iff]; simp; omega, rfl⟩⟩

theorem keyAt_eq {l : List Str} {k : Nat} (hk : k < l.length) : keyAt l k = (keyOk l[k] && (k == 0 || Op.bytesLess (l.getD (k - 1) []) l[k])) := by simp [keyAt, hk]
theorem keysAV_getD {ks : List Str} {i : Nat} (h : i < ks.length) : (keysAV ks)[i]? = some [.c (str (ks.getD i []))] := by simp [keysAV, h]
theorem bytesLess_tri : ∀ (a b : List UInt8), (Op.bytesLess a b || a == b) = !Op.bytesLess b a
  | [], [] => by simp [Op.bytesLess]
  | [], y :: b => by simp [Op.bytesLess]
  | x :: a, [] => by simp [Op.bytesLess]
  | x :: a, y :: b => by
    have ih := bytesLess_tri a b
    simp only [Op.bytesLess]
    by_cases h : x < y
    · have h' : ¬ y < x := fun h' => by have := UInt8.lt_iff_toNat_lt.1 h; have := UInt8.lt_iff_toNat_lt.1 h'; omega
      have hne : (y == x) = false := by simp; intro e; subst e; exact h' h
      simp [h, h', hne]
    · by_cases he : x = y
      · subst he
        simpa [h] using ih
      · have h' : y < x := by
          have hn : ¬ x.toNat < y.toNat := fun hh => h (UInt8.lt_iff_toNat_lt.2 hh)
          have hn2 : x.toNat ≠ y.toNat := fun hh => he (UInt8.toNat_inj.1 hh)
          exact UInt8.lt_iff_toNat_lt.2 (by omega)
        have hne : (x == y) = false := by simpa using he
        simp [h, h', hne]

theorem keys_ok (fr : Bool) (l : List Str) (hl : l.length ≤ 9223372036854775806) : Fn Try.prog 129 [.sl fr false eStr (keysAV l)] (.c (.bool (keysOk l))) := by
  refine AC.of_J Try.func129 rfl Try.ntmps129 rfl fun w0 A0 => ?_
  refine J.seq ?_
  refine J.region_lit ?_
  refine JL.q rfl rfl rfl (QW.assign .const) ?_
  refine JL.nil ?_
  refine thenQ.n ?_
  refine J.seq ?_
  refine J.seq ?_
  refine J.region_lit ?_
  refine JL.q rfl rfl rfl (QW.move (.tmp rfl)) ?_
  refine JL.q rfl rfl rfl (by first | exact QW.len_sl sl23 (.tmp rfl) | exact QW.len_nil sl23 (.tmp rfl)) ?_
  refine JL.q rfl rfl rfl (QW.move .const) ?_
  refine JL.nil ?_
  refine thenQ.n ?_
  refine J.block ?_
  refine J.loopK (ι := Nat) [0, 5, 6] (fun k => [(7, .c (.int .i64 (k : Int)))]) (fun _ oo => oo) (fun k => k ≤ l.length ∧ (List.range k).all (keyAt l) = true) (fun k => l.length - k) 0 (by simp) (Wk.re (.cons rfl (.refl _) (.cons rfl (.refl _) (.cons rfl (.refl _) (.cons rfl (.refl _) .nil)))) (Reown.refl _) (fun _ h => by first | exact h | simp [h])) ?_
  intro k ⟨hk, hall⟩
  refine J.conv (by (try simp only [stepsO, List.map_cons, List.map_nil, valO, nthO, curO, mrg, List.reverse_cons, List.reverse_nil, List.nil_append, List.cons_append, List.append_nil, List.getElem?_cons_zero, List.getElem?_cons_succ, Option.map_some, Option.getD_some, List.set_cons_zero, List.set_cons_succ, AV.cellsOf, splice_zero, splice_succ, Nat.zero_add, Nat.reduceAdd]); rfl) ?_
  refine J.seq ?_
  refine J.region_lit ?_
  refine JL.q rfl rfl rfl (QW.lss (.tmp rfl) (.tmp rfl)) ?_
  refine JL.nil ?_
  refine thenQ.n ?_
  refine J.seq ?_
  refine J.cond (.tmp rfl) (fun c1 => ?_) (fun c1 => ?_)
  · skip
    simp [keysAV_length] at c1
    refine J.skip ?_
    refine thenQ.n ?_
    refine J.seq ?_
    refine J.block ?_
    refine J.seq ?_
    refine J.region_lit ?_
    refine JL.q rfl rfl rfl (QW.move (.tmp rfl)) ?_
    refine JL.q rfl rfl rfl (QW.index_sl sl23 ty9 rfl (.tmp rfl) (.tmp rfl) (by first | rfl | omega | (simp; done)) (by exact keysAV_getD (by omega))) ?_
    refine JL.q rfl rfl rfl (QW.load_ref1 ty9 (.tmp rfl) rfl) ?_
    refine JL.q rfl rfl rfl (QW.assign (.tmp rfl)) ?_
    refine JL.q rfl rfl rfl (QW.assign (.tmp rfl)) ?_
    refine JL.nil ?_
    refine thenQ.n ?_
    refine J.seq ?_
    refine J.region_lit ?_
    refine JL.q rfl rfl rfl (QW.move (.tmp rfl)) ?_
    refine JL.q rfl rfl rfl (QW.call gofn110 (.cons (.tmp rfl) .nil) (key_ok _)) ?_
    refine JL.q rfl rfl rfl (QW.not (.tmp rfl)) ?_
    refine JL.q rfl rfl rfl (QW.move (.tmp rfl)) ?_
    refine JL.g rfl rfl rfl rfl rfl (fun hg => (QW.move (.tmp rfl))) ?_
    refine JL.g rfl rfl rfl rfl rfl (fun hg => (QW.gtr (.when rfl hg) .const)) ?_
    refine JL.g rfl rfl rfl rfl rfl (fun hg => (QW.move (.when rfl hg))) ?_
    refine JL.gg rfl rfl rfl rfl rfl (fun hg => (QW.move (.tmp rfl))) ?_
    refine JL.gg rfl rfl rfl rfl rfl (fun hg => (QW.move (.tmp rfl))) ?_
    refine JL.gg rfl rfl rfl rfl rfl (fun hg => (QW.sub (.when rfl hg) .const (by first | exact w64n (by first | rfl | omega | (simp; done)) (by omega) | exact w64 (by omega) | rfl))) ?_
    refine JL.gg rfl rfl rfl rfl rfl (fun hg => QW.index_sl (m := k - 1) sl23 ty9 rfl (.when rfl hg) (.when rfl hg) (by simp at hg; omega) (keysAV_getD (by omega))) ?_
    refine JL.gg rfl rfl rfl rfl rfl (fun hg => (QW.load_ref1 ty9 (.when rfl hg) rfl)) ?_
    refine JL.gg rfl rfl rfl rfl rfl (fun hg => (QW.move (.tmp rfl))) ?_
    refine JL.gg rfl rfl rfl rfl rfl (fun hg => (QW.geq_s (.when rfl hg) (.when rfl hg))) ?_
    refine JL.g rfl rfl rfl rfl rfl (fun hg => (by first | exact QW.pick_and (.when rfl hg) (.tmp rfl) | exact QW.pick_and2 hg (.when rfl hg) (.tmp rfl))) ?_
    refine JL.q rfl rfl rfl (QW.pick_or (.tmp rfl) (.tmp rfl)) ?_
    refine JL.nil ?_
    refine thenQ.n ?_
    refine J.cond (.tmp rfl) (fun c2 => ?_) (fun c2 => ?_)
    · skip
      have hbad : keyAt l k = false := by
        simp [keyAt] at c2 ⊢
        grind
      refine J.seq ?_
      refine J.region_lit ?_
      refine JL.q rfl rfl rfl (QW.assign .const) ?_
      refine JL.nil ?_
      refine thenQ.n ?_
      refine J.ret ?_
      refine blkQ.r ?_
      refine thenQ.r ?_
      refine thenQ.r ?_
      refine blkQ.r ?_
      refine thenQ.r ?_
      exact ⟨_, selP [] _, _, RetEv.one rfl (REv.tmp rfl (.refl _)), rfl, sel_perm [] _, ⟨by rw [keysOk, all_range_false (by omega) hbad], rfl⟩⟩
    · skip
      have hgood : keyAt l k = true := by
        simp [keyAt] at c2 ⊢
        grind
      refine J.skip ?_
      refine blkQ.n ?_
      refine thenQ.n ?_
      refine J.region_lit ?_
      refine JL.q rfl rfl rfl (QW.add (.tmp rfl) .const (by first | exact w64n (by first | rfl | omega | (simp; done)) (by omega) | exact w64 (by omega) | rfl)) ?_
      refine JL.q rfl rfl rfl (QW.move (.tmp rfl)) ?_
      refine JL.nil ?_
      refine thenQ.n ?_
      exact ⟨k + 1, ⟨by omega, all_range_succ hall hgood⟩, by omega, Wk.re (.cons rfl (.refl _) (.cons rfl (.refl _) (.cons rfl (.refl _) (.cons rfl (.refl _) .nil)))) (Reown.refl _) (fun _ h => by first | exact h | simp [h])⟩
  · skip
    simp [keysAV_length] at c1
    refine J.exit ?_
    refine thenQ.x ?_
    refine thenQ.x ?_
    refine blkQ.hit ?_
    refine thenQ.n ?_
    refine J.seq ?_
    refine J.region_lit ?_
    refine JL.q rfl rfl rfl (QW.assign .const) ?_
    refine JL.nil ?_
    refine thenQ.n ?_
    refine J.ret ?_
    exact ⟨_, selP [] _, _, RetEv.one rfl (REv.tmp rfl (.refl _)), rfl, sel_perm [] _, ⟨by rw [keysOk, show l.length = k by omega, hall], rfl⟩⟩

def bareOk : V → Bool
  | .mk k b t ks is => (k == 1 || k == 2 || b == 0) && (k == 3 || t == []) && (k == 5 || ks.length == 0) && (!(k == 0 || k == 1 || k == 2 || k == 3) || is.length == 0)

theorem bare_ok {fr : Bool} {v : V} {ys : List AV} (hv : Vc fr v ys) : Fn Try.prog 127 [.agg ys] (.c (.bool (bareOk v))) := by
  obtain ⟨k, b, t, ks, is⟩ := v
  subst hv
  refine AC.of_J Try.func127 rfl Try.ntmps127 rfl fun w0 A0 => ?_
  refine J.seq ?_
  refine J.region_lit ?_
  refine JL.box_agg (.tmp rfl) rfl fun b1 => ?_
  refine JL.q rfl rfl rfl (QW.assign .const) ?_
  refine JL.nil ?_
  refine thenQ.n ?_
  refine J.seq ?_
  refine J.region_lit ?_
  refine JL.q rfl rfl rfl (QW.field_ptr fo26_0 (.tmp rfl) rfl) ?_
  refine JL.q rfl rfl rfl (QW.load_box1 0 ty3 (.tmp rfl) rfl rfl) ?_
  refine JL.q rfl rfl rfl (QW.eql (.tmp rfl) .const) ?_
  refine JL.q rfl rfl rfl (QW.move (.tmp rfl)) ?_
  refine JL.g rfl rfl rfl rfl rfl (fun hg => (QW.field_ptr fo26_0 (.tmp rfl) rfl)) ?_
  refine JL.g rfl rfl rfl rfl rfl (fun hg => (QW.load_box1 0 ty3 (.when rfl hg) rfl rfl)) ?_
  refine JL.g rfl rfl rfl rfl rfl (fun hg => (QW.eql (.when rfl hg) .const)) ?_
  refine JL.q rfl rfl rfl (QW.pick_or (.tmp rfl) (.tmp rfl)) ?_
  refine JL.q rfl rfl rfl (QW.move (.tmp rfl)) ?_
  refine JL.g rfl rfl rfl rfl rfl (fun hg => (QW.field_ptr fo26_0 (.tmp rfl) rfl)) ?_
  refine JL.g rfl rfl rfl rfl rfl (fun hg => (QW.load_box1 0 ty3 (.when rfl hg) rfl rfl)) ?_
  refine JL.g rfl rfl rfl rfl rfl (fun hg => (QW.eql (.when rfl hg) .const)) ?_
  refine JL.q rfl rfl rfl (QW.pick_or (.tmp rfl) (.tmp rfl)) ?_
  refine JL.q rfl rfl rfl (QW.assign (.tmp rfl)) ?_
  refine JL.nil ?_
  refine thenQ.n ?_
  refine J.seq ?_
  refine J.block ?_
  refine J.seq ?_
  refine J.region_lit ?_
  refine JL.q rfl rfl rfl (QW.field_ptr fo26_0 (.tmp rfl) rfl) ?_
  refine JL.q rfl rfl rfl (QW.load_box1 0 ty3 (.tmp rfl) rfl rfl) ?_
  refine JL.q rfl rfl rfl (QW.neq (.tmp rfl) .const) ?_
  refine JL.q rfl rfl rfl (QW.move (.tmp rfl)) ?_
  refine JL.g rfl rfl rfl rfl rfl (fun hg => (QW.field_ptr fo26_0 (.tmp rfl) rfl)) ?_
  refine JL.g rfl rfl rfl rfl rfl (fun hg => (QW.load_box1 0 ty3 (.when rfl hg) rfl rfl)) ?_
  refine JL.g rfl rfl rfl rfl rfl (fun hg => (QW.neq (.when rfl hg) .const)) ?_
  refine JL.q rfl rfl rfl (QW.pick_and (.tmp rfl) (.tmp rfl)) ?_
  refine JL.q rfl rfl rfl (QW.move (.tmp rfl)) ?_
  refine JL.g rfl rfl rfl rfl rfl (fun hg => (QW.field_ptr fo26_1 (.tmp rfl) rfl)) ?_
  refine JL.g rfl rfl rfl rfl rfl (fun hg => (QW.load_box1 0 ty22 (.when rfl hg) rfl rfl)) ?_
  refine JL.g rfl rfl rfl rfl rfl (fun hg => (QW.neq (.when rfl hg) .const)) ?_
  refine JL.q rfl rfl rfl (QW.pick_and (.tmp rfl) (.tmp rfl)) ?_
  refine JL.q rfl rfl rfl (QW.assign (.tmp rfl)) ?_
  refine JL.nil ?_
  refine thenQ.n ?_
  refine J.cond (.tmp rfl) (fun c1 => ?_) (fun c1 => ?_)
  · skip
    refine J.skip ?_
    refine blkQ.n ?_
    refine thenQ.n ?_
    refine J.seq ?_
    refine J.region_lit ?_
    refine JL.q rfl rfl rfl (QW.assign .const) ?_
    refine JL.nil ?_
    refine thenQ.n ?_
    refine J.ret ?_
    exact ⟨_, selP [.k] _, _, RetEv.one rfl (REv.tmp rfl (.refl _)), rfl, sel_perm [.k] _, ⟨by simp only [bareOk]; congr 2; simp [V.css_length, keysAV_length] at *; grind, rfl⟩⟩
  · skip
    refine J.seq ?_
    refine J.region_lit ?_
    refine JL.q rfl rfl rfl (QW.field_ptr fo26_0 (.tmp rfl) rfl) ?_
    refine JL.q rfl rfl rfl (QW.load_box1 0 ty3 (.tmp rfl) rfl rfl) ?_
    refine JL.q rfl rfl rfl (QW.neq (.tmp rfl) .const) ?_
    refine JL.q rfl rfl rfl (QW.move (.tmp rfl)) ?_
    refine JL.g rfl rfl rfl rfl rfl (fun hg => (QW.field_ptr fo26_2 (.tmp rfl) rfl)) ?_
    refine JL.g rfl rfl rfl rfl rfl (fun hg => (QW.load_box1 0 ty9 (.when rfl hg) rfl rfl)) ?_
    refine JL.g rfl rfl rfl rfl rfl (fun hg => (QW.neq_s (.when rfl hg) .const)) ?_
    refine JL.q rfl rfl rfl (QW.pick_and (.tmp rfl) (.tmp rfl)) ?_
    refine JL.q rfl rfl rfl (QW.assign (.tmp rfl)) ?_
    refine JL.nil ?_
    refine thenQ.n ?_
    refine J.cond (.tmp rfl) (fun c2 => ?_) (fun c2 => ?_)
    · skip
      refine J.skip ?_
      refine blkQ.n ?_
      refine thenQ.n ?_
      refine J.seq ?_
      refine J.region_lit ?_
      refine JL.q rfl rfl rfl (QW.assign .const) ?_
      refine JL.nil ?_
      refine thenQ.n ?_
      refine J.ret ?_
      exact ⟨_, selP [.k] _, _, RetEv.one rfl (REv.tmp rfl (.refl _)), rfl, sel_perm [.k] _, ⟨by simp only [bareOk]; congr 2; simp [V.css_length, keysAV_length] at *; grind, rfl⟩⟩
    · skip
      refine J.seq ?_
      refine J.region_lit ?_
      refine JL.q rfl rfl rfl (QW.field_ptr fo26_0 (.tmp rfl) rfl) ?_
      refine JL.q rfl rfl rfl (QW.load_box1 0 ty3 (.tmp rfl) rfl rfl) ?_
      refine JL.q rfl rfl rfl (QW.neq (.tmp rfl) .const) ?_
      refine JL.q rfl rfl rfl (QW.move (.tmp rfl)) ?_
      refine JL.g rfl rfl rfl rfl rfl (fun hg => (QW.field_ptr fo26_3 (.tmp rfl) rfl)) ?_
      refine JL.g rfl rfl rfl rfl rfl (fun hg => (QW.load_box1 0 ty23 (.when rfl hg) rfl rfl)) ?_
      refine JL.g rfl rfl rfl rfl rfl (fun hg => (by first | exact QW.len_sl sl23 (.when rfl hg) | exact QW.len_nil sl23 (.when rfl hg))) ?_
      refine JL.g rfl rfl rfl rfl rfl (fun hg => (QW.gtr (.when rfl hg) .const)) ?_
      refine JL.q rfl rfl rfl (QW.pick_and (.tmp rfl) (.tmp rfl)) ?_
      refine JL.q rfl rfl rfl (QW.assign (.tmp rfl)) ?_
      refine JL.nil ?_
      refine thenQ.n ?_
      refine J.cond (.tmp rfl) (fun c3 => ?_) (fun c3 => ?_)
      · skip
        refine J.skip ?_
        refine blkQ.n ?_
        refine thenQ.n ?_
        refine J.seq ?_
        refine J.region_lit ?_
        refine JL.q rfl rfl rfl (QW.assign .const) ?_
        refine JL.nil ?_
        refine thenQ.n ?_
        refine J.ret ?_
        exact ⟨_, selP [.k] _, _, RetEv.one rfl (REv.tmp rfl (.refl _)), rfl, sel_perm [.k] _, ⟨by simp only [bareOk]; congr 2; simp [V.css_length, keysAV_length] at *; grind, rfl⟩⟩
      · skip
        refine J.seq ?_
        refine J.region_lit ?_
        refine JL.q rfl rfl rfl (QW.move (.tmp rfl)) ?_
        refine JL.q rfl rfl rfl (QW.move (.tmp rfl)) ?_
        refine JL.g rfl rfl rfl rfl rfl (fun hg => (QW.field_ptr fo26_0 (.tmp rfl) rfl)) ?_
        refine JL.g rfl rfl rfl rfl rfl (fun hg => (QW.load_box1 0 ty3 (.when rfl hg) rfl rfl)) ?_
        refine JL.g rfl rfl rfl rfl rfl (fun hg => (QW.eql (.when rfl hg) .const)) ?_
        refine JL.q rfl rfl rfl (QW.pick_or (.tmp rfl) (.tmp rfl)) ?_
        refine JL.q rfl rfl rfl (QW.move (.tmp rfl)) ?_
        refine JL.g rfl rfl rfl rfl rfl (fun hg => (QW.field_ptr fo26_4 (.tmp rfl) rfl)) ?_
        refine JL.g rfl rfl rfl rfl rfl (fun hg => (QW.load_box1 0 ty24 (.when rfl hg) rfl rfl)) ?_
        refine JL.g rfl rfl rfl rfl rfl (fun hg => (by first | exact QW.len_sl sl24 (.when rfl hg) | exact QW.len_nil sl24 (.when rfl hg))) ?_
        refine JL.g rfl rfl rfl rfl rfl (fun hg => (QW.gtr (.when rfl hg) .const)) ?_
        refine JL.q rfl rfl rfl (QW.pick_and (.tmp rfl) (.tmp rfl)) ?_
        refine JL.q rfl rfl rfl (QW.assign (.tmp rfl)) ?_
        refine JL.nil ?_
        refine thenQ.n ?_
        refine J.cond (.tmp rfl) (fun c4 => ?_) (fun c4 => ?_)
        · skip
          refine J.skip ?_
          refine blkQ.n ?_
          refine thenQ.n ?_
          refine J.seq ?_
          refine J.region_lit ?_
          refine JL.q rfl rfl rfl (QW.assign .const) ?_
          refine JL.nil ?_
          refine thenQ.n ?_
          refine J.ret ?_
          exact ⟨_, selP [.k] _, _, RetEv.one rfl (REv.tmp rfl (.refl _)), rfl, sel_perm [.k] _, ⟨by simp only [bareOk]; congr 2; simp [V.css_length, keysAV_length] at *; grind, rfl⟩⟩
        · skip
          refine J.seq ?_
          refine J.region_lit ?_
          refine JL.q rfl rfl rfl (QW.assign .const) ?_
          refine JL.nil ?_
          refine thenQ.n ?_
          refine J.ret ?_
          refine blkQ.r ?_
          refine thenQ.r ?_
          exact ⟨_, selP [.k] _, _, RetEv.one rfl (REv.tmp rfl (.refl _)), rfl, sel_perm [.k] _, ⟨by simp only [bareOk]; congr 2; simp [V.css_length, keysAV_length] at *; grind, rfl⟩⟩

theorem part_ok {fr : Bool} {v : V} {ys : List AV} (hv : Vc fr v ys) (hw : v.wf) : Fn Try.prog 105 [.agg ys] (.c (.bool (partOk v))) := by
  obtain ⟨k, b, t, ks, is⟩ := v
  subst hv
  obtain ⟨-, -, -, hk16, -, -, -⟩ := hw.inv
  refine AC.of_J Try.func105 rfl Try.ntmps105 rfl fun w0 A0 => ?_
  refine J.seq ?_
  refine J.region_lit ?_
  refine JL.box_agg (.tmp rfl) rfl fun b1 => ?_
  refine JL.q rfl rfl rfl (QW.assign .const) ?_
  refine JL.nil ?_
  refine thenQ.n ?_
  refine J.seq ?_
  refine J.seq ?_
  refine J.region_lit ?_
  refine JL.q rfl rfl rfl (by first | exact QW.load_box 0 ty26 (.tmp rfl) rfl rfl rfl | exact QW.load_box 0 ty26 (.tmp rfl) rfl (take_at (V.cs_length _ _) rfl) (V.cs_length _ _)) ?_
  refine JL.q rfl rfl rfl (QW.call gofn127 (.cons (.tmp rfl) .nil) (bare_ok Vc.mk)) ?_
  refine JL.q rfl rfl rfl (QW.not (.tmp rfl)) ?_
  refine JL.q rfl rfl rfl (QW.move (.tmp rfl)) ?_
  refine JL.g rfl rfl rfl rfl rfl (fun hg => (QW.field_ptr fo26_4 (.tmp rfl) rfl)) ?_
  refine JL.g rfl rfl rfl rfl rfl (fun hg => (QW.load_box1 0 ty24 (.when rfl hg) rfl rfl)) ?_
  refine JL.g rfl rfl rfl rfl rfl (fun hg => (by first | exact QW.len_sl sl24 (.when rfl hg) | exact QW.len_nil sl24 (.when rfl hg))) ?_
  refine JL.g rfl rfl rfl rfl rfl (fun hg => (QW.gtr (.when rfl hg) .const)) ?_
  refine JL.q rfl rfl rfl (QW.pick_or (.tmp rfl) (.tmp rfl)) ?_
  refine JL.nil ?_
  refine thenQ.n ?_
  refine J.cond (.tmp rfl) (fun c1 => ?_) (fun c1 => ?_)
  · skip
    refine J.seq ?_
    refine J.region_lit ?_
    refine JL.q rfl rfl rfl (QW.assign .const) ?_
    refine JL.nil ?_
    refine thenQ.n ?_
    refine J.ret ?_
    refine thenQ.r ?_
    exact ⟨_, selP [.k] _, _, RetEv.one rfl (REv.tmp rfl (.refl _)), rfl, sel_perm [.k] _, ⟨by simp only [partOk]; congr 2; simp [V.css_length, keysAV_length, bareOk] at *; grind, rfl⟩⟩
  · skip
    refine J.skip ?_
    refine thenQ.n ?_
    refine J.seq ?_
    refine J.seq ?_
    refine J.region_lit ?_
    refine JL.q rfl rfl rfl (QW.field_ptr fo26_0 (.tmp rfl) rfl) ?_
    refine JL.q rfl rfl rfl (QW.load_box1 0 ty3 (.tmp rfl) rfl rfl) ?_
    refine JL.nil ?_
    refine thenQ.n ?_
    refine J.block ?_
    refine J.seq ?_
    refine J.seq ?_
    refine J.region_lit ?_
    refine JL.q rfl rfl rfl (QW.eql (.tmp rfl) .const) ?_
    refine JL.q rfl rfl rfl (QW.assign (.tmp rfl)) ?_
    refine JL.nil ?_
    refine thenQ.n ?_
    refine J.cond (.tmp rfl) (fun c2 => ?_) (fun c2 => ?_)
    · skip
      refine J.skip ?_
      refine thenQ.n ?_
      refine J.cond (.tmp rfl) (fun c3 => ?_) (fun c3 => ?_)
      · skip
        refine J.seq ?_
        refine J.region_lit ?_
        refine JL.q rfl rfl rfl (QW.assign .const) ?_
        refine JL.nil ?_
        refine thenQ.n ?_
        refine J.ret ?_
        refine blkQ.r ?_
        refine thenQ.r ?_
        exact ⟨_, selP [.k] _, _, RetEv.one rfl (REv.tmp rfl (.refl _)), rfl, sel_perm [.k] _, ⟨by simp only [partOk]; congr 2; simp [V.css_length, keysAV_length, bareOk] at *; grind, rfl⟩⟩
      · skip
        refine J.seq ?_
        refine J.region_lit ?_
        refine JL.q rfl rfl rfl (QW.eql (.tmp rfl) .const) ?_
        refine JL.q rfl rfl rfl (QW.assign (.tmp rfl)) ?_
        refine JL.nil ?_
        refine thenQ.n ?_
        refine J.cond (.tmp rfl) (fun c4 => ?_) (fun c4 => ?_)
        · skip
          refine J.seq ?_
          refine J.region_lit ?_
          refine JL.q rfl rfl rfl (QW.field_ptr fo26_1 (.tmp rfl) rfl) ?_
          refine JL.q rfl rfl rfl (QW.load_box1 0 ty22 (.tmp rfl) rfl rfl) ?_
          refine JL.q rfl rfl rfl (QW.leq (.tmp rfl) .const) ?_
          refine JL.q rfl rfl rfl (QW.assign (.tmp rfl)) ?_
          refine JL.nil ?_
          refine thenQ.n ?_
          refine J.ret ?_
          refine blkQ.r ?_
          refine thenQ.r ?_
          exact ⟨_, selP [.k] _, _, RetEv.one rfl (REv.tmp rfl (.refl _)), rfl, sel_perm [.k] _, ⟨by simp only [partOk]; congr 2; simp [V.css_length, keysAV_length, bareOk] at *; grind, rfl⟩⟩
        · skip
          refine J.seq ?_
          refine J.region_lit ?_
          refine JL.q rfl rfl rfl (QW.eql (.tmp rfl) .const) ?_
          refine JL.q rfl rfl rfl (QW.assign (.tmp rfl)) ?_
          refine JL.nil ?_
          refine thenQ.n ?_
          refine J.cond (.tmp rfl) (fun c5 => ?_) (fun c5 => ?_)
          · skip
            refine J.seq ?_
            refine J.region_tailK 5 mixed (by kernel_rfl) (by kernel_rfl) (by kernel_rfl) rfl ?_
            refine .cons [] rfl rfl rfl (.q rfl (QW.field_ptr fo26_1 (.tmp rfl) rfl)) ?_
            refine .cons [24] rfl rfl rfl (.q rfl (QW.load_box1 0 ty22 (.tmp rfl) rfl rfl)) ?_
            refine .cons [25] rfl rfl rfl (.q rfl (QW.call gofn128 (.cons (.tmp rfl) .nil) (canon_ok _))) ?_
            refine .cons [] rfl rfl rfl (.q rfl (QW.field_ptr fo26_1 (.tmp rfl) rfl)) ?_
            refine .cons [27] rfl rfl rfl (.q rfl (QW.load_box1 0 ty22 (.tmp rfl) rfl rfl)) ?_
            refine .nil ?_
            refine JL.q rfl rfl rfl (QW.eql (.tmp rfl) (.tmp rfl)) ?_
            refine JL.q rfl rfl rfl (QW.assign (.tmp rfl)) ?_
            refine JL.nil ?_
            refine thenQ.n ?_
            refine J.ret ?_
            refine blkQ.r ?_
            refine thenQ.r ?_
            exact ⟨_, selP [.k] _, _, RetEv.one rfl (REv.tmp rfl (.refl _)), rfl, sel_perm [.k] _, ⟨by simp only [partOk]; congr 2; simp [V.css_length, keysAV_length, bareOk] at *; grind, rfl⟩⟩
          · skip
            refine J.seq ?_
            refine J.region_lit ?_
            refine JL.q rfl rfl rfl (QW.eql (.tmp rfl) .const) ?_
            refine JL.q rfl rfl rfl (QW.assign (.tmp rfl)) ?_
            refine JL.nil ?_
            refine thenQ.n ?_
            refine J.cond (.tmp rfl) (fun c6 => ?_) (fun c6 => ?_)
            · skip
              refine J.seq ?_
              refine J.region_lit ?_
              refine JL.q rfl rfl rfl (QW.field_ptr fo26_2 (.tmp rfl) rfl) ?_
              refine JL.q rfl rfl rfl (QW.load_box1 0 ty9 (.tmp rfl) rfl rfl) ?_
              refine JL.q rfl rfl rfl (QW.len_s st9 (.tmp rfl)) ?_
              refine JL.q rfl rfl rfl (QW.leq (.tmp rfl) .const) ?_
              refine JL.q rfl rfl rfl (QW.assign (.tmp rfl)) ?_
              refine JL.nil ?_
              refine thenQ.n ?_
              refine J.ret ?_
              refine blkQ.r ?_
              refine thenQ.r ?_
              exact ⟨_, selP [.k] _, _, RetEv.one rfl (REv.tmp rfl (.refl _)), rfl, sel_perm [.k] _, ⟨by simp only [partOk]; congr 2; simp [V.css_length, keysAV_length, bareOk] at *; grind, rfl⟩⟩
            · skip
              refine J.seq ?_
              refine J.region_lit ?_
              refine JL.q rfl rfl rfl (QW.eql (.tmp rfl) .const) ?_
              refine JL.q rfl rfl rfl (QW.assign (.tmp rfl)) ?_
              refine JL.nil ?_
              refine thenQ.n ?_
              refine J.cond (.tmp rfl) (fun c7 => ?_) (fun c7 => ?_)
              · skip
                refine J.seq ?_
                refine J.region_lit ?_
                refine JL.q rfl rfl rfl (QW.field_ptr fo26_3 (.tmp rfl) rfl) ?_
                refine JL.q rfl rfl rfl (QW.load_box1 0 ty23 (.tmp rfl) rfl rfl) ?_
                refine JL.q rfl rfl rfl (by first | exact QW.len_sl sl23 (.tmp rfl) | exact QW.len_nil sl23 (.tmp rfl)) ?_
                refine JL.q rfl rfl rfl (QW.field_ptr fo26_4 (.tmp rfl) rfl) ?_
                refine JL.q rfl rfl rfl (QW.load_box1 0 ty24 (.tmp rfl) rfl rfl) ?_
                refine JL.q rfl rfl rfl (by first | exact QW.len_sl sl24 (.tmp rfl) | exact QW.len_nil sl24 (.tmp rfl)) ?_
                refine JL.q rfl rfl rfl (QW.eql (.tmp rfl) (.tmp rfl)) ?_
                refine JL.q rfl rfl rfl (QW.move (.tmp rfl)) ?_
                refine JL.g rfl rfl rfl rfl rfl (fun hg => (QW.field_ptr fo26_3 (.tmp rfl) rfl)) ?_
                refine JL.g rfl rfl rfl rfl rfl (fun hg => (QW.load_box1 0 ty23 (.when rfl hg) rfl rfl)) ?_
                refine JL.g rfl rfl rfl rfl rfl (fun hg => (QW.call gofn129 (.cons (.when rfl hg) .nil) (keys_ok _ _ (by unfold reach at *; omega)))) ?_
                refine JL.q rfl rfl rfl (QW.pick_and (.tmp rfl) (.tmp rfl)) ?_
                refine JL.q rfl rfl rfl (QW.assign (.tmp rfl)) ?_
                refine JL.nil ?_
                refine thenQ.n ?_
                refine J.ret ?_
                refine blkQ.r ?_
                refine thenQ.r ?_
                exact ⟨_, selP [.k] _, _, RetEv.one rfl (REv.tmp rfl (.refl _)), rfl, sel_perm [.k] _, ⟨by simp only [partOk]; congr 2; simp [V.css_length, keysAV_length, bareOk] at *; grind, rfl⟩⟩
              · skip
                refine J.skip ?_
                refine blkQ.n ?_
                refine thenQ.n ?_
                refine J.seq ?_
                refine J.region_lit ?_
                refine JL.q rfl rfl rfl (QW.assign .const) ?_
                refine JL.nil ?_
                refine thenQ.n ?_
                refine J.ret ?_
                exact ⟨_, selP [.k] _, _, RetEv.one rfl (REv.tmp rfl (.refl _)), rfl, sel_perm [.k] _, ⟨by simp only [partOk]; congr 2; simp [V.css_length, keysAV_length, bareOk] at *; grind, rfl⟩⟩
    · skip
      refine J.region_lit ?_
      refine JL.q rfl rfl rfl (QW.eql (.tmp rfl) .const) ?_
      refine JL.q rfl rfl rfl (QW.assign (.tmp rfl)) ?_
      refine JL.nil ?_
      refine thenQ.n ?_
      refine J.cond (.tmp rfl) (fun c3 => ?_) (fun c3 => ?_)
      · skip
        refine J.seq ?_
        refine J.region_lit ?_
        refine JL.q rfl rfl rfl (QW.assign .const) ?_
        refine JL.nil ?_
        refine thenQ.n ?_
        refine J.ret ?_
        refine blkQ.r ?_
        refine thenQ.r ?_
        exact ⟨_, selP [.k] _, _, RetEv.one rfl (REv.tmp rfl (.refl _)), rfl, sel_perm [.k] _, ⟨by simp only [partOk]; congr 2; simp [V.css_length, keysAV_length, bareOk] at *; grind, rfl⟩⟩
      · skip
        refine J.seq ?_
        refine J.region_lit ?_
        refine JL.q rfl rfl rfl (QW.eql (.tmp rfl) .const) ?_
        refine JL.q rfl rfl rfl (QW.assign (.tmp rfl)) ?_
        refine JL.nil ?_
        refine thenQ.n ?_
        refine J.cond (.tmp rfl) (fun c4 => ?_) (fun c4 => ?_)
        · skip
          refine J.seq ?_
          refine J.region_lit ?_
          refine JL.q rfl rfl rfl (QW.field_ptr fo26_1 (.tmp rfl) rfl) ?_
          refine JL.q rfl rfl rfl (QW.load_box1 0 ty22 (.tmp rfl) rfl rfl) ?_
          refine JL.q rfl rfl rfl (QW.leq (.tmp rfl) .const) ?_
          refine JL.q rfl rfl rfl (QW.assign (.tmp rfl)) ?_
          refine JL.nil ?_
          refine thenQ.n ?_
          refine J.ret ?_
          refine blkQ.r ?_
          refine thenQ.r ?_
          exact ⟨_, selP [.k] _, _, RetEv.one rfl (REv.tmp rfl (.refl _)), rfl, sel_perm [.k] _, ⟨by simp only [partOk]; congr 2; simp [V.css_length, keysAV_length, bareOk] at *; grind, rfl⟩⟩
        · skip
          refine J.seq ?_
          refine J.region_lit ?_
          refine JL.q rfl rfl rfl (QW.eql (.tmp rfl) .const) ?_
          refine JL.q rfl rfl rfl (QW.assign (.tmp rfl)) ?_
          refine JL.nil ?_
          refine thenQ.n ?_
          refine J.cond (.tmp rfl) (fun c5 => ?_) (fun c5 => ?_)
          · skip
            refine J.seq ?_
            refine J.region_tailK 5 mixed (by kernel_rfl) (by kernel_rfl) (by kernel_rfl) rfl ?_
            refine .cons [] rfl rfl rfl (.q rfl (QW.field_ptr fo26_1 (.tmp rfl) rfl)) ?_
            refine .cons [24] rfl rfl rfl (.q rfl (QW.load_box1 0 ty22 (.tmp rfl) rfl rfl)) ?_
            refine .cons [25] rfl rfl rfl (.q rfl (QW.call gofn128 (.cons (.tmp rfl) .nil) (canon_ok _))) ?_
            refine .cons [] rfl rfl rfl (.q rfl (QW.field_ptr fo26_1 (.tmp rfl) rfl)) ?_
            refine .cons [27] rfl rfl rfl (.q rfl (QW.load_box1 0 ty22 (.tmp rfl) rfl rfl)) ?_
            refine .nil ?_
            refine JL.q rfl rfl rfl (QW.eql (.tmp rfl) (.tmp rfl)) ?_
            refine JL.q rfl rfl rfl (QW.assign (.tmp rfl)) ?_
            refine JL.nil ?_
            refine thenQ.n ?_
            refine J.ret ?_
            refine blkQ.r ?_
            refine thenQ.r ?_
            exact ⟨_, selP [.k] _, _, RetEv.one rfl (REv.tmp rfl (.refl _)), rfl, sel_perm [.k] _, ⟨by simp only [partOk]; congr 2; simp [V.css_length, keysAV_length, bareOk] at *; grind, rfl⟩⟩
          · skip
            refine J.seq ?_
            refine J.region_lit ?_
            refine JL.q rfl rfl rfl (QW.eql (.tmp rfl) .const) ?_
            refine JL.q rfl rfl rfl (QW.assign (.tmp rfl)) ?_
            refine JL.nil ?_
            refine thenQ.n ?_
            refine J.cond (.tmp rfl) (fun c6 => ?_) (fun c6 => ?_)
            · skip
              refine J.seq ?_
              refine J.region_lit ?_
              refine JL.q rfl rfl rfl (QW.field_ptr fo26_2 (.tmp rfl) rfl) ?_
              refine JL.q rfl rfl rfl (QW.load_box1 0 ty9 (.tmp rfl) rfl rfl) ?_
              refine JL.q rfl rfl rfl (QW.len_s st9 (.tmp rfl)) ?_
              refine JL.q rfl rfl rfl (QW.leq (.tmp rfl) .const) ?_
              refine JL.q rfl rfl rfl (QW.assign (.tmp rfl)) ?_
              refine JL.nil ?_
              refine thenQ.n ?_
              refine J.ret ?_
              refine blkQ.r ?_
              refine thenQ.r ?_
              exact ⟨_, selP [.k] _, _, RetEv.one rfl (REv.tmp rfl (.refl _)), rfl, sel_perm [.k] _, ⟨by simp only [partOk]; congr 2; simp [V.css_length, keysAV_length, bareOk] at *; grind, rfl⟩⟩
            · skip
              refine J.seq ?_
              refine J.region_lit ?_
              refine JL.q rfl rfl rfl (QW.eql (.tmp rfl) .const) ?_
              refine JL.q rfl rfl rfl (QW.assign (.tmp rfl)) ?_
              refine JL.nil ?_
              refine thenQ.n ?_
              refine J.cond (.tmp rfl) (fun c7 => ?_) (fun c7 => ?_)
              · skip
                refine J.seq ?_
                refine J.region_lit ?_
                refine JL.q rfl rfl rfl (QW.field_ptr fo26_3 (.tmp rfl) rfl) ?_
                refine JL.q rfl rfl rfl (QW.load_box1 0 ty23 (.tmp rfl) rfl rfl) ?_
                refine JL.q rfl rfl rfl (by first | exact QW.len_sl sl23 (.tmp rfl) | exact QW.len_nil sl23 (.tmp rfl)) ?_
                refine JL.q rfl rfl rfl (QW.field_ptr fo26_4 (.tmp rfl) rfl) ?_
                refine JL.q rfl rfl rfl (QW.load_box1 0 ty24 (.tmp rfl) rfl rfl) ?_
                refine JL.q rfl rfl rfl (by first | exact QW.len_sl sl24 (.tmp rfl) | exact QW.len_nil sl24 (.tmp rfl)) ?_
                refine JL.q rfl rfl rfl (QW.eql (.tmp rfl) (.tmp rfl)) ?_
                refine JL.q rfl rfl rfl (QW.move (.tmp rfl)) ?_
                refine JL.g rfl rfl rfl rfl rfl (fun hg => (QW.field_ptr fo26_3 (.tmp rfl) rfl)) ?_
                refine JL.g rfl rfl rfl rfl rfl (fun hg => (QW.load_box1 0 ty23 (.when rfl hg) rfl rfl)) ?_
                refine JL.g rfl rfl rfl rfl rfl (fun hg => (QW.call gofn129 (.cons (.when rfl hg) .nil) (keys_ok _ _ (by unfold reach at *; omega)))) ?_
                refine JL.q rfl rfl rfl (QW.pick_and (.tmp rfl) (.tmp rfl)) ?_
                refine JL.q rfl rfl rfl (QW.assign (.tmp rfl)) ?_
                refine JL.nil ?_
                refine thenQ.n ?_
                refine J.ret ?_
                refine blkQ.r ?_
                refine thenQ.r ?_
                exact ⟨_, selP [.k] _, _, RetEv.one rfl (REv.tmp rfl (.refl _)), rfl, sel_perm [.k] _, ⟨by simp only [partOk]; congr 2; simp [V.css_length, keysAV_length, bareOk] at *; grind, rfl⟩⟩
              · skip
                refine J.skip ?_
                refine blkQ.n ?_
                refine thenQ.n ?_
                refine J.seq ?_
                refine J.region_lit ?_
                refine JL.q rfl rfl rfl (QW.assign .const) ?_
                refine JL.nil ?_
                refine thenQ.n ?_
                refine J.ret ?_
                exact ⟨_, selP [.k] _, _, RetEv.one rfl (REv.tmp rfl (.refl _)), rfl, sel_perm [.k] _, ⟨by simp only [partOk]; congr 2; simp [V.css_length, keysAV_length, bareOk] at *; grind, rfl⟩⟩

end Go.Proofs.Ytkiankpmkglhcaa.J
