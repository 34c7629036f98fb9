/- Texts of this proof, laid together. -/
import Derived.Test.YtmccnmahegbmpaaGreatX1RReduceOthers
import Derived.WalkSpells
import Derived.Lib.LazyBuf
import Derived.Test.YtmccnmahegbmpaaGreatProg
import Derived.KernelRfl
import Derived.Lib.AppendZerosOnto
import Derived.Laws.Externs
set_option linter.unusedVariables false
set_option linter.unusedSimpArgs false
/- Calls that pass own entries, or lend them to be read; what is read through blocks of one sort alone; loops that keep the slots around them. -/
namespace Go.Proofs.YtmccnmahegbmpaaGreat.J
open Go Go.RowKit
inductive Fl (p : Bool → Prop) : AV → Prop
  | c (v : Value) : Fl p (.c v)
  | gp (v : Value) (o : Nat) : Fl p (.gp v o)
  | sl {fr clip : Bool} {e : ETy} {xs : List (List AV)} (hp : p fr) (h : ∀ (k : Nat) (y : AV), xs.flatten[k]? = some y → Fl p y) : Fl p (.sl fr clip e xs)
  | ref {fr : Bool} {ys : List AV} (hp : p fr) (h : ∀ (k : Nat) (y : AV), ys[k]? = some y → Fl p y) : Fl p (.ref fr ys)
  | agg {ys : List AV} (h : ∀ (k : Nat) (y : AV), ys[k]? = some y → Fl p y) : Fl p (.agg ys)
  | tup {ys : List AV} (h : ∀ (k : Nat) (y : AV), ys[k]? = some y → Fl p y) : Fl p (.tup ys)
  | wh {t : Bool} {x : AV} (h : Fl p x) : Fl p (.wh t x)
def FlL (p : Bool → Prop) (ys : List AV) : Prop := ∀ (k : Nat) (y : AV), ys[k]? = some y → Fl p y
theorem FlL.nil {p : Bool → Prop} : FlL p [] := fun k y h => by simp at h
theorem FlL.cons {p : Bool → Prop} {y : AV} {ys : List AV} (h : Fl p y) (hs : FlL p ys) : FlL p (y :: ys) := fun k z hk => by
  cases k with
  | zero => simp at hk; subst hk; exact h
  | succ k => exact hs k z (by simpa using hk)
theorem FlL.append {p : Bool → Prop} {ys zs : List AV} (h : FlL p ys) (hs : FlL p zs) : FlL p (ys ++ zs) := fun k z hk => by
  by_cases hlt : k < ys.length
  · rw [List.getElem?_append_left hlt] at hk; exact h k z hk
  · rw [List.getElem?_append_right (by omega)] at hk; exact hs _ z hk
theorem FlL.c {p : Bool → Prop} : ∀ (vs : List Value), FlL p (vs.map AV.c)
  | [] => .nil
  | v :: vs => .cons (.c v) (FlL.c vs)
abbrev Fresh : AV → Prop := Fl (· = true)
theorem Rd.flags {w w' : World} {A A' : Foot} {p : Bool → Prop} {v : Value} {x : AV} (h : Rd w A v x) (hx : Fl p x) (hA : ∀ fr b, p fr → A fr b → A' fr b) (hw : ∀ fr b, p fr → A fr b → w'.heap[b]? = w.heap[b]?) : Rd w' A' v x := by
  induction h with
  | c v => exact .c v
  | emp fr clip e a cap hc => exact .emp fr clip e a cap hc
  | sl fr clip e xs b off cap cs t fz u hA' hb hcap hclip hsz hreach hu _ ih =>
    cases hx with
    | sl hp h => exact .sl fr clip e xs b off cap cs t fz u (hA _ _ hp hA') (by rw [hw _ _ hp hA']; exact hb) hcap hclip hsz hreach hu fun k y hk => ih k y hk (h k y hk)
  | ref fr ys b off cs t fz u hA' hb hu _ ih =>
    cases hx with
    | ref hp h => exact .ref fr ys b off cs t fz u (hA _ _ hp hA') (by rw [hw _ _ hp hA']; exact hb) hu fun k y hk => ih k y hk (h k y hk)
  | agg vs ys u hn hu _ ih => cases hx with | agg h => exact .agg vs ys u hn hu fun k y hk => ih k y hk (h k y hk)
  | tup vs ys u hn hu _ ih => cases hx with | tup h => exact .tup vs ys u hn hu fun k y hk => ih k y hk (h k y hk)
  | wh t v x _ h0 ih => cases hx with | wh h => exact .wh t v x (fun ht => ih ht h) h0
  | gp b o n cap off => exact .gp b o n cap off
inductive OwnFl (p : Bool → Prop) : Own → Prop
  | box {b : Nat} {ys : List AV} (h : FlL p ys) : OwnFl p (.box b ys)
  | arr {v : Value} {e : ETy} {xs : List (List AV)} (h : FlL p xs.flatten) : OwnFl p (.arr v e xs)
  | grp {l : List Own} (h : ∀ o ∈ l, OwnFl p o) : OwnFl p (.grp l)
theorem Cells.flags {w w' : World} {A A' : Foot} {p : Bool → Prop} {us : Array Value} {off : Nat} {ys : List AV} (h : Cells w A us off ys) (hy : FlL p ys) (hA : ∀ fr b, p fr → A fr b → A' fr b) (hw : ∀ fr b, p fr → A fr b → w'.heap[b]? = w.heap[b]?) : Cells w' A' us off ys :=
  fun k y hk => let ⟨u, h1, h0, h2⟩ := h k y hk; ⟨u, h1, h0, h2.flags (hy k y hk) hA hw⟩
mutual
theorem Own.ok.flags {w : World} {A A' : Foot} {p : Bool → Prop} (hA : ∀ fr b, p fr → A fr b → A' fr b) : ∀ {o : Own}, o.ok w A → OwnFl p o → o.ok w A'
  | .box b ys, h, hx => by
    simp only [Own.ok] at h ⊢
    obtain ⟨us, t, h1, h2, h3⟩ := h
    cases hx with | box hy => exact ⟨us, t, h1, h2, h3.flags hy hA fun _ _ _ _ => rfl⟩
  | .arr v e xs, h, hx => by
    simp only [Own.ok] at h ⊢
    cases hx with
    | arr hy =>
      rcases h with h | ⟨b, cap, us, t, hv, h1, h2, h3, h4, h5⟩
      · exact .inl h
      · exact .inr ⟨b, cap, us, t, hv, h1, h2, h3, h4, h5.flags hy hA fun _ _ _ _ => rfl⟩
  | .grp l, h, hx => by
    simp only [Own.ok] at h ⊢
    cases hx with | grp hy => exact Own.okl.flags hA h hy
theorem Own.okl.flags {w : World} {A A' : Foot} {p : Bool → Prop} (hA : ∀ fr b, p fr → A fr b → A' fr b) : ∀ {l : List Own}, Own.okl w A l → (∀ o ∈ l, OwnFl p o) → Own.okl w A' l
  | [], _, _ => by simp [Own.okl]
  | o :: l, h, hx => by
    simp only [Own.okl] at h ⊢
    exact ⟨Own.ok.flags hA h.1 (hx o (by simp)), Own.okl.flags hA h.2 fun o ho => hx o (by simp [ho])⟩
end
theorem fpl_eq : ∀ l : List Own, Own.fpl l = fps l
  | [] => by simp [Own.fpl, fps]
  | o :: l => by simp [Own.fpl, fps, fpl_eq l]
theorem okl_iff {w : World} {A : Foot} : ∀ {l : List Own}, Own.okl w A l ↔ ∀ o ∈ l, o.ok w A
  | [] => by simp [Own.okl]
  | o :: l => by simp [Own.okl, okl_iff (l := l)]
/-! ### masks -/
inductive Cd where
  | k
  | p
  | l
  deriving DecidableEq
def selK : List Cd → List Own → List Own
  | [], own => own
  | _ :: _, [] => []
  | .k :: ms, o :: own => o :: selK ms own
  | .p :: ms, _ :: own => selK ms own
  | .l :: ms, _ :: own => selK ms own
def selP : List Cd → List Own → List Own
  | [], _ => []
  | _ :: _, [] => []
  | .p :: ms, o :: own => o :: selP ms own
  | .k :: ms, _ :: own => selP ms own
  | .l :: ms, _ :: own => selP ms own
def selL : List Cd → List Own → List Own
  | [], _ => []
  | _ :: _, [] => []
  | .l :: ms, o :: own => o :: selL ms own
  | .k :: ms, _ :: own => selL ms own
  | .p :: ms, _ :: own => selL ms own
def mrg : List Cd → List Own → List Own → List Own
  | [], ps, own => own ++ ps
  | _ :: _, ps, [] => ps
  | .p :: ms, p :: ps, _ :: own => p :: mrg ms ps own
  | .p :: ms, [], _ :: own => mrg ms [] own
  | .k :: ms, ps, o :: own => o :: mrg ms ps own
  | .l :: ms, ps, o :: own => o :: mrg ms ps own
theorem sel_perm : ∀ (ms : List Cd) (own : List Own), own.Perm (selP ms own ++ (selL ms own ++ selK ms own))
  | [], own => by simp [selP, selL, selK]
  | _ :: _, [] => by simp [selP, selL, selK]
  | .p :: ms, o :: own => by simpa [selP, selL, selK] using sel_perm ms own
  | .l :: ms, o :: own => by
    simp only [selP, selL, selK, List.cons_append]
    exact (List.Perm.cons o (sel_perm ms own)).trans List.perm_middle.symm
  | .k :: ms, o :: own => by
    simp only [selP, selL, selK]
    refine (List.Perm.cons o (sel_perm ms own)).trans ?_
    rw [← List.append_assoc, ← List.append_assoc]
    exact List.perm_middle.symm
theorem mrg_perm : ∀ (ms : List Cd) (ps own : List Own), (ps ++ (selL ms own ++ selK ms own)).Perm (mrg ms ps own)
  | [], ps, own => by simpa [mrg, selL, selK] using List.perm_append_comm
  | _ :: _, ps, [] => by simp [mrg, selL, selK]
  | .p :: ms, p :: ps, _ :: own => by simpa [mrg, selL, selK] using mrg_perm ms ps own
  | .p :: ms, [], _ :: own => by simpa [mrg, selL, selK] using mrg_perm ms [] own
  | .k :: ms, ps, o :: own => by
    simp only [mrg, selL, selK]
    refine List.Perm.trans ?_ (List.Perm.cons o (mrg_perm ms ps own))
    rw [← List.append_assoc, ← List.append_assoc]
    exact List.perm_middle
  | .l :: ms, ps, o :: own => by
    simp only [mrg, selL, selK, List.cons_append]
    exact List.perm_middle.trans (List.Perm.cons o (mrg_perm ms ps own))
section
variable {P : Program} {E : Ent} {st : St} {Q : Exit → St → Prop} {n B : Nat} {env : List (Nat × AV)} {own : List Own} {F : List (Value × AV)} {D : List Deferred} {ops : Array Oper} {rest : List Oper}
variable {A : Foot} {a : Act} {w w' : World} {t et ty : TypeId} {pos : String} {af : Array Edge} {d : Nat} {dd : Option Tmp} {gd : Option (Nat × Bool)} {x y : Operand} {g : Bool} {m : Nat}
def Lent (G : List (Value × AV)) (O : List Own) : Prop := ∀ (w : World) (A : Foot), Own.okl w A O → (∀ b ∈ fps O, A false b) → (∀ b, A true b → A false b) → ∀ p ∈ G, Rd w A p.1 p.2
theorem Lent.nil {O : List Own} : Lent [] O := fun w A _ _ _ p hp => by cases hp
def FreshR : Res → Prop
  | .ret x => Fresh x
  | .pan _ => True
theorem SatA.callG {E : Ent} (ms : List Cd) {f : FuncId} {l : List Operand} {xs : List AV} {fi ca : List Value} {R : Res → List Own → Prop} {G : List (Value × AV)} (hG : Lent G (selL ms own))
    (hfr : selL ms own = [] ∨ ∀ r o, R r o → FreshR r ∧ ∀ x ∈ o, OwnFl (· = true) x)
    (hA : SatA E A ⟨n, env, own, F, D⟩ a w) (hargs : ∀ E', EvL E' ⟨n, env, selP ms own ++ selK ms own, G ++ F, D⟩ l xs) (hAC : AC P f (selP ms own) (fi.map AV.c ++ xs ++ ca.map AV.c) R)
    {KK : Ending → World → Prop} (hK : ∀ r own' A' w', R r own' → Frm w A w' A' → SatA E A' ⟨n, env, mrg ms own' own, F, D⟩ a w' → ∀ e, RdE w' A' e r → KK e w') :
    Calls P f (fi.toArray ++ l.toArray.map a.eval ++ ca.toArray) w KK := by
  obtain ⟨O, hO⟩ : ∃ O, O = selL ms own := ⟨_, rfl⟩
  obtain ⟨op, hop⟩ : ∃ op, op = selP ms own := ⟨_, rfl⟩
  obtain ⟨ro, hro⟩ : ∃ ro, ro = selK ms own := ⟨_, rfl⟩
  have hperm : own.Perm (op ++ (O ++ ro)) := by rw [hO, hop, hro]; exact sel_perm ms own
  have hmrg : ∀ ps, (ps ++ (O ++ ro)).Perm (mrg ms ps own) := fun ps => by rw [hO, hro]; exact mrg_perm ms ps own
  rw [← hO] at hG hfr
  rw [← hop, ← hro] at hargs
  rw [← hop] at hAC
  have h := hA.perm hperm
  have hn0 := h.keep.size
  have hnd := h.hp.nodup
  simp only [fps_append, List.nodup_append] at hnd
  obtain ⟨hd1, ⟨hd2, hd3, hd4⟩, hd5⟩ := hnd
  let A1 : Foot := fun fr b => A fr b ∨ (fr = false ∧ b ∈ fps O)
  have hup : ∀ fr b, A fr b → A1 fr b := fun fr b hb => .inl hb
  have hfp : ∀ b, b ∈ fps op ∨ b ∈ fps O ∨ b ∈ fps ro → b < w.heap.size ∧ (b ∈ E.fp0 ∨ E.w0.heap.size ≤ b) ∧ ∀ fr, ¬ A fr b := fun b hb => h.hp.fp b (by simp only [fps_append, List.mem_append]; exact hb)
  have hmv : ∀ {v x}, Rd w A v x → Rd w A1 v x := fun hr => hr.move (fun fr b hb _ => hup fr b hb) fun _ _ _ _ => rfl
  have hokm : ∀ {o : Own}, o.ok w A → o.ok w A1 := fun ho => ho.move (fun fr b hb _ => hup fr b hb) (fun _ _ _ _ => rfl) fun _ _ => rfl
  have hA1lt : ∀ fr b, A1 fr b → b < w.heap.size := fun fr b hb => hb.elim (h.hp.lt fr b) fun hb => (hfp b (.inr (.inl hb.2))).1
  have hA1m : ∀ b, A1 true b → A1 false b := fun b hb => hb.elim (fun hb => .inl (h.hp.mono b hb)) fun hb => by cases hb.1
  have hnot : ∀ b, b ∈ fps op ∨ b ∈ fps ro → ∀ fr, ¬ A1 fr b := fun b hb fr hA => by
    rcases hA with hA | ⟨_, hA⟩
    · exact (hfp b (hb.elim .inl fun hb => .inr (.inr hb))).2.2 fr hA
    · rcases hb with hb | hb
      · exact hd5 b hb b (List.mem_append_left _ hA) rfl
      · exact hd4 b hA b hb rfl
  -- the callee's start
  have hstart : Hp w.heap.size (fps op) A1 op w A1 := ⟨hA1m, fun _ _ h => h, fun _ _ h => .inl h, hA1lt, fun b hb => ⟨(hfp b (.inl hb)).1, .inl hb, hnot b (.inl hb)⟩, hd1, fun o ho => hokm (h.hp.own o (List.mem_append_left _ ho))⟩
  -- the arguments
  have hargs' : SatA ⟨w, fps (op ++ ro), A1, none⟩ A1 ⟨n, env, op ++ ro, G ++ F, D⟩ a w := by
    refine ⟨h.size, h.defers, .refl _ _, ⟨hA1m, fun _ _ h => h, fun _ _ h => .inl h, hA1lt, fun b hb => ?_, ?_, fun o ho => ?_⟩, fun i x hl => hmv (h.env i x hl), fun p hp => ?_⟩
    · have hb' := hb
      rw [fps_append, List.mem_append] at hb
      exact ⟨(hfp b (hb.elim .inl fun hb => .inr (.inr hb))).1, .inl hb', hnot b hb⟩
    · rw [fps_append, List.nodup_append]
      exact ⟨hd1, hd3, fun b hb c hc => hd5 b hb c (List.mem_append_right _ hc)⟩
    · rcases List.mem_append.1 ho with ho | ho
      · exact hokm (h.hp.own o (List.mem_append_left _ ho))
      · exact hokm (h.hp.own o (List.mem_append_right _ (List.mem_append_right _ ho)))
    · rcases List.mem_append.1 hp with hp | hp
      · exact hG w A1 (okl_iff.2 fun o ho => hokm (h.hp.own o (List.mem_append_right _ (List.mem_append_left _ ho)))) (fun b hb => .inr ⟨rfl, hb⟩) hA1m p hp
      · exact hmv (h.facts p hp)
  refine (hAC w A1 _ hstart (((hargs _).rdL hargs').around fi ca)).mono ?_
  rintro e w' ⟨r, own', A', hR, hk, hp, hr⟩
  let A2 : Foot := fun fr b => A' fr b ∧ b ∉ fps O
  have hA2 : ∀ fr b, A fr b → A2 fr b := fun fr b hb => ⟨hp.sup fr b (hup fr b hb), fun hm => (hfp b (.inr (.inl hm))).2.2 fr hb⟩
  have hfix : ∀ b, b < w.heap.size → b ∉ fps op → w'.heap[b]? = w.heap[b]? := fun b hb hm => hk.block b hb hm
  have hop' : ∀ fr b, A fr b → b ∉ fps op := fun fr b hb hm => (hfp b (.inl hm)).2.2 fr hb
  have hmv2 : ∀ {v x}, Rd w A v x → Rd w' A2 v x := fun hr => hr.move (fun fr b hb _ => hA2 fr b hb) fun fr b hb hlt => hfix b hlt (hop' fr b hb)
  have hrest : ∀ b, b ∈ fps O ∨ b ∈ fps ro → b ∉ fps op := fun b hb hm => hd5 b hm b (List.mem_append.2 hb) rfl
  have hokr : ∀ o, o ∈ O ∨ o ∈ ro → o.ok w' A2 := fun o ho =>
    (h.hp.own o (List.mem_append_right _ (List.mem_append.2 ho))).move (fun fr b hb _ => hA2 fr b hb) (fun fr b hb hlt => hfix b hlt (hop' fr b hb))
      fun b hb => by
        have : b ∈ fps O ∨ b ∈ fps ro := ho.imp (fun ho => fps_mem ho hb) fun ho => fps_mem ho hb
        exact hfix b (hfp b (.inr this)).1 (hrest b this)
  have hA'O : ∀ b, A' true b → b ∉ fps O := fun b hb hm => by
    rcases hp.sub true b hb with h1 | h1
    · rcases h1 with h1 | h1
      · exact (hfp b (.inr (.inl hm))).2.2 _ h1
      · cases h1.1
    · have := (hfp b (.inr (.inl hm))).1; omega
  have hres : SatA E A2 ⟨n, env, own' ++ (O ++ ro), F, D⟩ a w' := by
    refine ⟨h.size, h.defers, h.keep.trans hk fun b hb => (hfp b (.inl hb)).2.1, ⟨fun b hb => ⟨hp.mono b hb.1, hb.2⟩, fun fr b hb => hA2 fr b (h.hp.sup fr b hb), fun fr b hb => ?_, fun fr b hb => hp.lt fr b hb.1, fun b hb => ?_, ?_, fun o ho => ?_⟩,
      fun i x hl => hmv2 (h.env i x hl), fun p hp => hmv2 (h.facts p hp)⟩
    · rcases hp.sub fr b hb.1 with h1 | h1
      · rcases h1 with h1 | h1
        · exact h.hp.sub fr b h1
        · exact absurd h1.2 hb.2
      · exact .inr (Nat.le_trans hn0 h1)
    · simp only [fps_append, List.mem_append] at hb
      rcases hb with hb | hb
      · obtain ⟨g1, g2, g3⟩ := hp.fp b hb
        refine ⟨g1, ?_, fun fr hA => g3 fr hA.1⟩
        rcases g2 with g2 | g2
        · exact (hfp b (.inl g2)).2.1
        · exact .inr (Nat.le_trans hn0 g2)
      · obtain ⟨g1, g2, g3⟩ := hfp b (.inr hb)
        refine ⟨Nat.lt_of_lt_of_le g1 hk.size, g2, fun fr hA => ?_⟩
        rcases hp.sub fr b hA.1 with h1 | h1
        · rcases h1 with h1 | h1
          · exact g3 fr h1
          · exact hA.2 h1.2
        · omega
    · simp only [fps_append]
      refine List.nodup_append.2 ⟨hp.nodup, List.nodup_append.2 ⟨hd2, hd3, hd4⟩, fun b hb c hc hbc => ?_⟩
      subst hbc
      have hc' := List.mem_append.1 hc
      rcases (hp.fp b hb).2.1 with g2 | g2
      · exact hrest b hc' g2
      · have := (hfp b (.inr hc')).1; omega
    · rcases List.mem_append.1 ho with ho | ho
      · rcases hfr with hfr | hfr
        · have : A2 = A' := by
            funext fr b
            simp [A2, hfr, fps]
          rw [this]; exact hp.own o ho
        · exact (hp.own o ho).flags (p := (· = true)) (fun fr b hf hb => by subst hf; exact ⟨hb, hA'O b hb⟩) ((hfr _ _ hR).2 o ho)
      · exact hokr o (List.mem_append.1 ho)
  refine hK r own' A2 w' hR (fun u y h => hmv2 h) (hres.perm (hmrg own')) e ?_
  cases r with
  | ret x =>
    obtain ⟨v, h1, h2⟩ := hr
    refine ⟨v, h1, ?_⟩
    rcases hfr with hfr | hfr
    · have : A2 = A' := by
        funext fr b
        simp [A2, hfr, fps]
      rw [this]; exact h2
    · exact h2.flags (p := (· = true)) (hfr _ _ hR).1 (fun fr b hf hb => by subst hf; exact ⟨hb, hA'O b hb⟩) fun _ _ _ _ => rfl
  | pan v => exact hr
theorem JL.callG (ms : List Cd) {f : FuncId} {fo : Operand} {fi ca : List Value} {l : List Operand} {tys : Array TypeId} {xs zs : List AV} {R : Res → List Own → Prop} {G : List (Value × AV)} (hf : goFn P f = true) (hd : Nat.blt d n = true)
    (hfo : Ev E ⟨n, env, own, F, D⟩ fo (.c (.func (.func f) fi.toArray ca.toArray))) (hG : Lent G (selL ms own)) (hargs : ∀ E', EvL E' ⟨n, env, selP ms own ++ selK ms own, G ++ F, D⟩ l xs) (hzs : fi.map AV.c ++ xs ++ ca.map AV.c = zs) (hAC : AC P f (selP ms own) zs R)
    (hfr : selL ms own = [] ∨ ∀ r o, R r o → FreshR r ∧ ∀ x ∈ o, OwnFl (· = true) x)
    (hret : ∀ x own', R (.ret x) own' → JL P E ops rest ⟨n, (d, x) :: env, mrg ms own' own, F, D⟩ Q)
    (hpan : ∀ v own', R (.pan v) own' → Q (.panic [{ v, recovered := false }]) ⟨n, env, mrg ms own' own, F, D⟩) :
    JL P E ops (⟨some d, .call ⟨.value fo, l.toArray, tys⟩, ty, pos, af, none⟩ :: rest) ⟨n, env, own, F, D⟩ Q := fun a w ⟨A, hA⟩ => by
  refine wpListIn_plain rfl fun K hK => ?_
  refine wpR (by intro c h; cases h) ?_
  unfold Oper.wp
  rw [run_call hf (hfo.eq hA), Oper.upon_enter]
  subst hzs
  refine SatA.callG ms hG hfr hA hargs hAC fun r own' A' w' hR _ hsat e hr => ?_
  cases r with
  | ret x =>
    obtain ⟨v, rfl, hv⟩ := hr
    exact hK _ _ (hret x own' hR _ _ ⟨A', hsat.put (blt_lt hd) hv⟩)
  | pan v =>
    obtain rfl := hr
    exact ⟨_, hpan v own' hR, A', hsat⟩
theorem JL.callF (ms : List Cd) {f : FuncId} {l : List Operand} {tys : Array TypeId} {xs : List AV} {R : Res → List Own → Prop} {G : List (Value × AV)} (hf : goFn P f = true) (hd : Nat.blt d n = true)
    (hG : Lent G (selL ms own)) (hargs : ∀ E', EvL E' ⟨n, env, selP ms own ++ selK ms own, G ++ F, D⟩ l xs) (hAC : AC P f (selP ms own) xs R)
    (hfr : selL ms own = [] ∨ ∀ r o, R r o → FreshR r ∧ ∀ x ∈ o, OwnFl (· = true) x)
    (hret : ∀ x own', R (.ret x) own' → JL P E ops rest ⟨n, (d, x) :: env, mrg ms own' own, F, D⟩ Q)
    (hpan : ∀ v own', R (.pan v) own' → Q (.panic [{ v, recovered := false }]) ⟨n, env, mrg ms own' own, F, D⟩) :
    JL P E ops (⟨some d, .call ⟨.value (.func f), l.toArray, tys⟩, ty, pos, af, none⟩ :: rest) ⟨n, env, own, F, D⟩ Q :=
  JL.callG (fi := []) (ca := []) ms hf hd .func hG hargs (by simp) hAC hfr hret hpan
theorem QW.callL (ms : List Cd) {f : FuncId} {fo : Operand} {fi ca : List Value} {l : List Operand} {tys : Array TypeId} {xs zs : List AV} {z : AV} {G : List (Value × AV)} (hf : goFn P f = true)
    (hfo : Ev E ⟨n, env, own, F, D⟩ fo (.c (.func (.func f) fi.toArray ca.toArray))) (hG : Lent G (selL ms own)) (hp : selP ms own = []) (hmo : mrg ms [] own = own) (hargs : ∀ E', EvL E' ⟨n, env, selP ms own ++ selK ms own, G ++ F, D⟩ l xs)
    (hzs : fi.map AV.c ++ xs ++ ca.map AV.c = zs) (h : Fn P f zs z) (hz : Fresh z) :
    QW P E ⟨n, env, own, F, D⟩ ⟨dd, .call ⟨.value fo, l.toArray, tys⟩, ty, pos, af, gd⟩ z := fun A a w hA K Qx hK => by
  refine wpR (by intro c h; cases h) ?_
  unfold Oper.wp
  rw [run_call hf (hfo.eq hA), Oper.upon_enter]
  subst hzs
  have h' : AC P f (selP ms own) (fi.map AV.c ++ xs ++ ca.map AV.c) fun r own' => r = .ret z ∧ own' = [] := by rw [hp]; exact h
  have hfr : ∀ (r : Res) (o : List Own), r = .ret z ∧ o = [] → FreshR r ∧ ∀ x ∈ o, OwnFl (· = true) x := fun r o ⟨h1, h2⟩ => by
    subst h1 h2; exact ⟨hz, fun x hx => by cases hx⟩
  refine SatA.callG ms hG (.inr hfr) hA hargs h' fun r own' A' w' ⟨h1, h2⟩ hfm hsat e hr => ?_
  subst h1 h2
  rw [hmo] at hsat
  obtain ⟨v, rfl, hv⟩ := hr
  exact hK v w' A' hfm hsat hv
theorem QW.callLF (ms : List Cd) {f : FuncId} {l : List Operand} {tys : Array TypeId} {xs : List AV} {z : AV} {G : List (Value × AV)} (hf : goFn P f = true)
    (hG : Lent G (selL ms own)) (hp : selP ms own = []) (hmo : mrg ms [] own = own) (hargs : ∀ E', EvL E' ⟨n, env, selP ms own ++ selK ms own, G ++ F, D⟩ l xs)
    (h : Fn P f xs z) (hz : Fresh z) :
    QW P E ⟨n, env, own, F, D⟩ ⟨dd, .call ⟨.value (.func f), l.toArray, tys⟩, ty, pos, af, gd⟩ z :=
  QW.callL (fi := []) (ca := []) ms hf .func hG hp hmo hargs (by simp) h hz
end
end Go.Proofs.YtmccnmahegbmpaaGreat.J

/- Trees that a call owns: entries in groups; what they read as when they are lent, or closed for good. -/
namespace Go.Proofs.YtmccnmahegbmpaaGreat.J
open Go Go.RowKit
def OwnEq (o o' : Own) : Prop := (∀ b, o.fp.count b = o'.fp.count b) ∧ ∀ w A, o.ok w A ↔ o'.ok w A
theorem OwnEq.refl (o : Own) : OwnEq o o := ⟨fun _ => rfl, fun _ _ => .rfl⟩
theorem OwnEq.symm {o o' : Own} (h : OwnEq o o') : OwnEq o' o := ⟨fun b => (h.1 b).symm, fun w A => (h.2 w A).symm⟩
theorem OwnEq.trans {o o' o'' : Own} (h : OwnEq o o') (k : OwnEq o' o'') : OwnEq o o'' := ⟨fun b => (h.1 b).trans (k.1 b), fun w A => (h.2 w A).trans (k.2 w A)⟩
theorem OwnEq.mem {o o' : Own} (h : OwnEq o o') (b : Nat) : b ∈ o.fp ↔ b ∈ o'.fp := by
  rw [← List.count_pos_iff, ← List.count_pos_iff, h.1 b]
theorem OwnEq.grp {l l' : List Own} (h1 : ∀ b, (fps l).count b = (fps l').count b) (h2 : ∀ w A, (∀ o ∈ l, o.ok w A) ↔ ∀ o ∈ l', o.ok w A) : OwnEq (.grp l) (.grp l') :=
  ⟨fun b => by simpa [Own.fp, fpl_eq] using h1 b, fun w A => by simpa [Own.ok, okl_iff] using h2 w A⟩
theorem OwnEq.grp_perm {l l' : List Own} (h : l.Perm l') : OwnEq (.grp l) (.grp l') := .grp (fun b => (fps_perm h).count_eq b) fun w A => ⟨fun k o ho => k o (h.mem_iff.2 ho), fun k o ho => k o (h.mem_iff.1 ho)⟩
theorem fps_cons (o : Own) (l : List Own) : fps (o :: l) = o.fp ++ fps l := by simp [fps]
theorem fps_nil : fps [] = [] := rfl
theorem OwnEq.cons {o o' : Own} {l l' : List Own} (h : OwnEq o o') (k : OwnEq (.grp l) (.grp l')) : OwnEq (.grp (o :: l)) (.grp (o' :: l')) :=
  .grp (fun b => by
    have := k.1 b
    simp only [Own.fp, fpl_eq] at this
    simp only [fps_cons, List.count_append, h.1 b, this]) fun w A => by
    have := k.2 w A
    simp only [Own.ok, okl_iff] at this
    simp only [List.forall_mem_cons, h.2 w A, this]
theorem OwnEq.one (o : Own) : OwnEq (.grp [o]) o := ⟨fun b => by simp [Own.fp, Own.fpl], fun w A => by simp [Own.ok, Own.okl]⟩
theorem OwnEq.nest (l r : List Own) : OwnEq (.grp (.grp l :: r)) (.grp (l ++ r)) := .grp (fun b => by simp [fps_cons, fps_append, Own.fp, fpl_eq]) fun w A => by simp [Own.ok, okl_iff, or_imp, forall_and]
mutual
/-- A value reads as x, and all that it is read through is the entry's own. -/
inductive Tr : AV → Value → Own → Prop
  | c {v : Value} {o : Own} (ho : OwnEq (.grp []) o) : Tr (.c v) v o
  | sl {e : ETy} {xs cs : List (List AV)} {v : Value} {us : List Value} {o o' : Own} (h1 : cs.flatten = us.map AV.c) (h2 : cs.length = xs.length) (h3 : ∀ x ∈ xs, x.length = e.sz) (h4 : ∀ x ∈ cs, x.length = e.sz) (h5 : us.all (·.oneCell') = true)
      (h6 : xs.length * e.bytes ≤ reach) (h : TrL xs.flatten us o) (ho : OwnEq (.grp [.arr v e cs, o]) o') : Tr (.sl true false e xs) v o'
  | agg {ys : List AV} {us : List Value} {o : Own} (h5 : us.all (·.oneCell') = true) (h : TrL ys us o) : Tr (.agg ys) (.agg us.toArray) o
inductive TrL : List AV → List Value → Own → Prop
  | nil {o : Own} (ho : OwnEq (.grp []) o) : TrL [] [] o
  | cons {y : AV} {u : Value} {ys : List AV} {us : List Value} {o o' o'' : Own} (h : Tr y u o) (hs : TrL ys us o') (ho : OwnEq (.grp [o, o']) o'') : TrL (y :: ys) (u :: us) o''
end
theorem TrL.eqv {x : List AV} {v : List Value} {o o' : Own} (h : TrL x v o) (k : OwnEq o o') : TrL x v o' := by
  cases h with
  | nil ho => exact .nil (ho.trans k)
  | cons h hs ho => exact .cons h hs (ho.trans k)
theorem TrL.length {ys : List AV} {us : List Value} {o : Own} (h : TrL ys us o) : ys.length = us.length := by
  induction ys generalizing us o with
  | nil => cases h; rfl
  | cons y ys ih =>
    cases h with
    | cons h hs ho => simp [ih hs]
theorem TrL.append {ys zs : List AV} {us vs : List Value} {o o' o'' : Own} (h : TrL ys us o) (k : TrL zs vs o') (ho : OwnEq (.grp [o, o']) o'') : TrL (ys ++ zs) (us ++ vs) o'' := by
  induction ys generalizing us o o'' with
  | nil =>
    cases h with
    | nil hn =>
      refine k.eqv (OwnEq.trans ?_ ho)
      exact (OwnEq.one o').symm.trans ((OwnEq.nest [] [o']).symm.trans (.cons hn (.refl _)))
  | cons y ys ih =>
    cases h with
    | cons h1 hs h2 =>
      rename_i u us oa ob
      refine .cons h1 (ih hs (.refl _)) (OwnEq.trans ?_ ho)
      -- [oa, [ob, o']] ~ [[oa, ob], o']
      refine OwnEq.trans ?_ (.cons h2 (.refl _))
      refine OwnEq.trans ?_ (OwnEq.nest [oa, ob] [o']).symm
      refine OwnEq.trans (.grp_perm (List.Perm.swap _ _ _)) ?_
      refine OwnEq.trans (OwnEq.nest [ob, o'] [oa]) (.grp_perm ?_)
      exact (List.perm_append_comm (l₁ := [ob, o']) (l₂ := [oa]))
theorem TrL.split {ys zs : List AV} {us : List Value} {o : Own} (h : TrL (ys ++ zs) us o) : ∃ u1 u2 o1 o2, us = u1 ++ u2 ∧ TrL ys u1 o1 ∧ TrL zs u2 o2 ∧ OwnEq (.grp [o1, o2]) o := by
  induction ys generalizing us o with
  | nil => exact ⟨[], us, .grp [], o, rfl, .nil (.refl _), h, (OwnEq.nest [] [o]).trans (OwnEq.one o)⟩
  | cons y ys ih =>
    cases h with
    | cons h1 hs h2 =>
      rename_i u us oa ob
      obtain ⟨u1, u2, o1, o2, hu, g1, g2, g3⟩ := ih hs
      refine ⟨u :: u1, u2, .grp [oa, o1], o2, by simp [hu], .cons h1 g1 (.refl _), g2, ?_⟩
      refine OwnEq.trans (OwnEq.nest [oa, o1] [o2]) ?_
      refine OwnEq.trans ?_ h2
      exact .cons (.refl _) (OwnEq.trans (OwnEq.one _).symm (.cons g3 (.refl _)))
theorem okl_two {w : World} {A : Foot} {o o' o'' : Own} (ho : OwnEq (.grp [o, o']) o'') (h : o''.ok w A) : o.ok w A ∧ o'.ok w A := by
  have := (ho.2 w A).2 h
  simpa [Own.ok, Own.okl] using this
theorem mem_two {o o' o'' : Own} (ho : OwnEq (.grp [o, o']) o'') {b : Nat} (h : b ∈ o.fp ∨ b ∈ o'.fp) : b ∈ o''.fp := by
  rw [← ho.mem]; simpa [Own.fp, Own.fpl] using h
theorem cells_of_flat {w : World} {A : Foot} {us : List Value} {ys : List AV} {cells : Array Value} (h : Cells w A cells 0 (us.map AV.c)) (hl : ys.length = us.length) (hr : ∀ (k : Nat) (y : AV) (u : Value), ys[k]? = some y → us[k]? = some u → Rd w A u y) : Cells w A cells 0 ys := fun k y hk => by
  obtain ⟨u, hu⟩ : ∃ u, us[k]? = some u := ⟨us[k]'(by rw [← hl]; exact (List.getElem?_eq_some_iff.1 hk).1), List.getElem?_eq_getElem _⟩
  obtain ⟨u', h1, h0, h2⟩ := h k (.c u) (by simp [hu])
  have := h2.eq
  subst this
  exact ⟨_, h1, h0, hr k y _ hk hu⟩
mutual
theorem Tr.rd {w : World} {A : Foot} : ∀ {x : AV} {v : Value} {o : Own}, Tr x v o → o.ok w A → (∀ b ∈ o.fp, A true b) → Rd w A v x
  | _, _, _, .c _, _, _ => .c _
  | _, _, _, .sl (e := e) (xs := xs) (cs := cs) (v := v) (us := us) (o := o) h1 h2 h3 h4 h5 h6 h ho, hok, hA => by
    obtain ⟨g1, g2⟩ := okl_two ho hok
    have hel := TrL.rd h g2 fun b hb => hA b (mem_two ho (.inr hb))
    have hlen := h.length
    simp only [Own.ok] at g1
    rcases g1 with ⟨a0, rfl, hcs⟩ | ⟨b, cap, cells, t, rfl, hb, hcap, hcu, hsz, hc⟩
    · subst hcs
      have : xs = [] := by cases xs with | nil => rfl | cons _ _ => simp at h2
      subst this
      exact .emp _ _ _ _ _ fun hh => by cases hh
    · rw [h1] at hc
      have hc' := cells_of_flat hc hlen hel
      rw [h2] at hcap ⊢
      exact .sl true false e xs b 0 (cap + 1) cells t (0, 0) (fun k => cells.getD k undef) (hA b (mem_two ho (.inl (by simp [Own.fp, arrFp])))) hb hcap (fun hh => by cases hh) h3 h6
        (fun k y hk => by
          obtain ⟨u, k1, k0, _⟩ := hc' k y hk
          rw [Nat.zero_add] at k1 ⊢
          simp [Array.getD_eq_getD_getElem?, k1, k0])
        fun k y hk => by
          obtain ⟨u, k1, _, k2⟩ := hc' k y hk
          rw [Nat.zero_add] at k1
          simpa [Array.getD_eq_getD_getElem?, k1] using k2
  | _, _, _, .agg (ys := ys) (us := us) h5 h, hok, hA => by
    have hel := TrL.rd h hok hA
    refine .mk_agg (by simp [h.length]) fun k y hk => ?_
    obtain ⟨u, hu⟩ : ∃ u, us[k]? = some u := ⟨us[k]'(by rw [← h.length]; exact (List.getElem?_eq_some_iff.1 hk).1), List.getElem?_eq_getElem _⟩
    exact ⟨u, by simpa using hu, (List.all_eq_true.1 h5) u (List.mem_of_getElem? hu), hel k y u hk hu⟩
theorem TrL.rd {w : World} {A : Foot} : ∀ {ys : List AV} {us : List Value} {o : Own}, TrL ys us o → o.ok w A → (∀ b ∈ o.fp, A true b) → ∀ (k : Nat) (y : AV) (u : Value), ys[k]? = some y → us[k]? = some u → Rd w A u y
  | _, _, _, .nil _, _, _ => fun k y u hk _ => by simp at hk
  | _, _, _, .cons h hs ho, hok, hA => fun k y u hk hu => by
    obtain ⟨g1, g2⟩ := okl_two ho hok
    cases k with
    | zero =>
      simp at hk hu
      subst hk hu
      exact Tr.rd h g1 fun b hb => hA b (mem_two ho (.inl hb))
    | succ k => exact TrL.rd hs g2 (fun b hb => hA b (mem_two ho (.inr hb))) k y u (by simpa using hk) (by simpa using hu)
end
abbrev LowFl : AV → Prop := Fl (· = false)
theorem Tr.lent {x y : AV} {v : Value} {o : Own} (h : Tr x v o) (hl : Le [] x y) (hy : LowFl y) : Lent [(v, y)] [o] := fun w A hok hA hm p hp => by
  simp only [List.mem_singleton] at hp
  subst hp
  have hfp : ∀ b ∈ o.fp, A false b := fun b hb => hA b (by simpa [fps] using hb)
  let A1 : Foot := fun fr b => A fr b ∨ b ∈ o.fp
  have hok' : o.ok w A := by simpa [Own.okl] using hok
  have h1 : Rd w A1 v x := h.rd (hok'.move (fun fr b hb _ => .inl hb) (fun _ _ _ _ => rfl) fun _ _ => rfl) fun b hb => .inr hb
  have h2 : Rd w A1 v y := h1.le (F := []) (fun b hb => hb.imp (hm b) id) (fun p hp => by cases hp) hl
  exact h2.flags (p := (· = false)) hy (fun fr b hf hb => by subst hf; exact hb.elim id (hfp b)) fun _ _ _ _ => rfl
theorem Lent.cons {G G' : List (Value × AV)} {o : Own} {O : List Own} (h : Lent G [o]) (k : Lent G' O) : Lent (G ++ G') (o :: O) := fun w A hok hA hm p hp => by
  simp only [Own.okl] at hok
  simp only [fps_cons, List.mem_append] at hA
  rcases List.mem_append.1 hp with hp | hp
  · exact h w A (by simpa [Own.okl] using hok.1) (fun b hb => hA b (.inl (by simpa [fps] using hb))) hm p hp
  · exact k w A hok.2 (fun b hb => hA b (.inr hb)) hm p hp
def Clos (G : List (Value × AV)) (o : Own) : Prop := ∀ (w : World) (A : Foot), o.ok w A → (∀ b ∈ o.fp, ∀ fr, A fr b) → ∀ p ∈ G, Rd w A p.1 p.2
theorem Tr.clos {x : AV} {v : Value} {o : Own} (h : Tr x v o) : Clos [(v, x)] o := fun w A hok hA p hp => by
  simp only [List.mem_singleton] at hp
  subst hp
  exact h.rd hok fun b hb => hA b hb true
section
variable {P : Program} {E : Ent} {st : St} {Q : Exit → St → Prop} {n B : Nat} {env : List (Nat × AV)} {own : List Own} {F : List (Value × AV)} {D : List Deferred} {ops : Array Oper} {rest : List Oper}
variable {A : Foot} {a : Act} {w w' : World}
theorem SatA.close {i : Nat} {o : Own} {G : List (Value × AV)} (h : SatA E A ⟨n, env, own, F, D⟩ a w) (hi : own[i]? = some o) (hG : Clos G o)
    (hfp : ∀ b ∈ E.fp0, b ∈ fps (own.eraseIdx i)) : ∃ A', SatA E A' ⟨n, env, own.eraseIdx i, G ++ F, D⟩ a w := by
  have h' := h.perm (perm_pick hi)
  have hnd := h'.hp.nodup
  rw [fps_cons] at hnd
  simp only [List.nodup_append] at hnd
  obtain ⟨hn1, hn2, hn3⟩ := hnd
  let A' : Foot := fun fr b => A fr b ∨ b ∈ o.fp
  have hup : ∀ fr b, A fr b → A' fr b := fun fr b hb => .inl hb
  have hfpx : ∀ b ∈ o.fp, b < w.heap.size ∧ (b ∈ E.fp0 ∨ E.w0.heap.size ≤ b) ∧ ∀ fr, ¬ A fr b := fun b hb => h'.hp.fp b (by rw [fps_cons]; exact List.mem_append_left _ hb)
  have hm : ∀ {u x}, Rd w A u x → Rd w A' u x := fun hr => hr.move (fun fr b hb _ => hup fr b hb) fun _ _ _ _ => rfl
  refine ⟨A', h'.size, h'.defers, h'.keep, ⟨fun b hb => hb.imp (h'.hp.mono b) id, fun fr b hb => hup fr b (h'.hp.sup fr b hb), fun fr b hb => ?_, fun fr b hb => hb.elim (h'.hp.lt fr b) fun hb => (hfpx b hb).1, fun b hb => ?_, hn2, fun o ho => ?_⟩,
    fun i x hl => hm (h'.env i x hl), fun p hp => ?_⟩
  · rcases hb with hb | hb
    · exact h'.hp.sub fr b hb
    · refine .inr ((hfpx b hb).2.1.elim (fun hmem => ?_) id)
      exact absurd rfl (hn3 b hb b (hfp b hmem))
  · obtain ⟨h1, h2, h3⟩ := h'.hp.fp b (by rw [fps_cons]; exact List.mem_append_right _ hb)
    exact ⟨h1, h2, fun fr hA => hA.elim (h3 fr) fun hb' => hn3 b hb' b hb rfl⟩
  · exact (h'.hp.own o (List.mem_cons_of_mem _ ho)).move (fun fr b hb _ => hup fr b hb) (fun _ _ _ _ => rfl) fun _ _ => rfl
  · rcases List.mem_append.1 hp with hp | hp
    · exact hG w A' ((h'.hp.own _ (List.mem_cons_self)).move (fun fr b hb _ => hup fr b hb) (fun _ _ _ _ => rfl) fun _ _ => rfl) (fun b hb fr => .inr hb) p hp
    · exact hm (h'.facts p hp)
theorem J.close (i : Nat) {o : Own} {G : List (Value × AV)} {own' : List Own} {c : Code} (hi : own[i]? = some o) (hG : Clos G o) (ho : own.eraseIdx i = own') (hfp : ∀ b ∈ E.fp0, b ∈ fps own')
    (h : J P E c ⟨n, env, own', G ++ F, D⟩ Q) : J P E c ⟨n, env, own, F, D⟩ Q := fun a w ⟨A, hA⟩ => by
  subst ho
  obtain ⟨A', hA'⟩ := hA.close hi hG hfp
  exact h a w ⟨A', hA'⟩
def Reown (own own' : List Own) : Prop := (∀ b, (fps own').count b ≤ (fps own).count b) ∧ ∀ w A, (∀ o ∈ own, o.ok w A) → ∀ o ∈ own', o.ok w A
theorem Hp.reown {n0 : Nat} {fp0 : List Nat} {A0 : Foot} {own' : List Own} (h : Hp n0 fp0 A0 own w A) (hr : Reown own own') : Hp n0 fp0 A0 own' w A :=
  ⟨h.mono, h.sup, h.sub, h.lt, fun b hb => h.fp b (by rw [← List.count_pos_iff] at hb ⊢; exact Nat.lt_of_lt_of_le hb (hr.1 b)), by
    rw [List.nodup_iff_count]
    intro b
    exact Nat.le_trans (hr.1 b) ((List.nodup_iff_count.1 h.nodup) b), hr.2 w A h.own⟩
theorem Reown.refl (own : List Own) : Reown own own := ⟨fun _ => Nat.le_refl _, fun _ _ h => h⟩
theorem Reown.trans {a b c : List Own} (h : Reown a b) (k : Reown b c) : Reown a c := ⟨fun x => Nat.le_trans (k.1 x) (h.1 x), fun w A g => k.2 w A (h.2 w A g)⟩
theorem Reown.perm {a b : List Own} (h : a.Perm b) : Reown a b := ⟨fun x => Nat.le_of_eq ((fps_perm h).count_eq x).symm, fun w A g o ho => g o (h.mem_iff.2 ho)⟩
theorem Reown.drop (a b : List Own) : Reown (a ++ b) b := ⟨fun x => by simp [fps_append], fun w A g o ho => g o (List.mem_append_right _ ho)⟩
theorem Reown.left {a b c : List Own} (h : Reown a b) : Reown (c ++ a) (c ++ b) := ⟨fun x => by simp only [fps_append, List.count_append]; exact Nat.add_le_add_left (h.1 x) _, fun w A g o ho => by
  rcases List.mem_append.1 ho with ho | ho
  · exact g o (List.mem_append_left _ ho)
  · exact h.2 w A (fun o ho => g o (List.mem_append_right _ ho)) o ho⟩
theorem Reown.cons {o : Own} {a b : List Own} (h : Reown a b) : Reown (o :: a) (o :: b) := Reown.left (c := [o]) h
theorem Reown.eq {o o' : Own} {a : List Own} (h : OwnEq o o') : Reown (o :: a) (o' :: a) := ⟨fun x => by simp only [fps_cons, List.count_append, h.1 x]; exact Nat.le_refl _, fun w A g => by
  simp only [List.forall_mem_cons] at g ⊢
  exact ⟨(h.2 w A).1 g.1, g.2⟩⟩
theorem Reown.open (l a : List Own) : Reown (.grp l :: a) (l ++ a) := ⟨fun x => by simp [fps_cons, fps_append, Own.fp, fpl_eq], fun w A g => by
  simp only [List.forall_mem_cons, Own.ok, okl_iff] at g
  intro o ho
  rcases List.mem_append.1 ho with ho | ho
  · exact g.1 o ho
  · exact g.2 o ho⟩
theorem Reown.shut (l a : List Own) : Reown (l ++ a) (.grp l :: a) := ⟨fun x => by simp [fps_cons, fps_append, Own.fp, fpl_eq], fun w A g => by
  simp only [List.forall_mem_cons, Own.ok, okl_iff]
  exact ⟨fun o ho => g o (List.mem_append_left _ ho), fun o ho => g o (List.mem_append_right _ ho)⟩⟩
theorem Reown.split2 {own : List Own} {i : Nat} {o o1 o2 : Own} (hi : own[i]? = some o) (h : OwnEq (.grp [o1, o2]) o) : Reown own (own.set i o1 ++ [o2]) := by
  have hlt := (List.getElem?_eq_some_iff.1 hi).1
  refine (Reown.perm (perm_pick hi)).trans ((Reown.eq h.symm).trans ((Reown.open [o1, o2] _).trans (Reown.perm ?_)))
  have hs : (own.set i o1)[i]? = some o1 := by simp [hlt]
  have h2 := perm_pick hs
  rw [List.eraseIdx_set_eq] at h2
  exact ((List.Perm.cons o1 (List.perm_append_singleton o2 _).symm)).trans (by
    rw [← List.cons_append]; exact List.Perm.append_right [o2] h2.symm)
theorem SatA.reown {own' : List Own} (h : SatA E A ⟨n, env, own, F, D⟩ a w) (hr : Reown own own') : SatA E A ⟨n, env, own', F, D⟩ a w := ⟨h.size, h.defers, h.keep, h.hp.reown hr, h.env, h.facts⟩
theorem JL.reown {own' : List Own} {l : List Oper} (hr : Reown own own') (h : JL P E ops l ⟨n, env, own', F, D⟩ Q) : JL P E ops l ⟨n, env, own, F, D⟩ Q := fun a w ⟨A, hA⟩ => h a w ⟨A, hA.reown hr⟩
theorem J.reown {own' : List Own} {c : Code} (hr : Reown own own') (h : J P E c ⟨n, env, own', F, D⟩ Q) : J P E c ⟨n, env, own, F, D⟩ Q := fun a w ⟨A, hA⟩ => h a w ⟨A, hA.reown hr⟩
theorem Wk.re {own' : List Own} {env' : List (Nat × AV)} {F' : List (Value × AV)} (henv : EnvLe F env env') (hr : Reown own own') (hF : ∀ p ∈ F', p ∈ F) : Wk ⟨n, env, own, F, D⟩ ⟨n, env', own', F', D⟩ := fun E a w ⟨A, h⟩ =>
  ⟨A, h.size, h.defers, h.keep, h.hp.reown hr, fun i x hl => by
    obtain ⟨y, hy, hle⟩ := henv.get i x hl
    exact (h.env i y hy).le h.hp.mono h.facts hle, fun p hp => h.facts p (hF p hp)⟩
/-! ### loops that keep what is around them -/
def pickEnv : List Nat → List (Nat × AV) → List (Nat × AV)
  | [], _ => []
  | k :: ks, env => match lk env k with | some x => (k, x) :: pickEnv ks env | none => pickEnv ks env
theorem J.loopK {ι : Type} {c : Code} (ks : List Nat) (ch : ι → List (Nat × AV)) (ow : ι → List Own → List Own) (p : ι → Prop) (μ : ι → Nat) (i0 : ι) (h0 : p i0)
    (hw : Wk ⟨n, env, own, F, D⟩ ⟨n, ch i0 ++ pickEnv ks env, ow i0 own, F, D⟩)
    (round : ∀ i, p i → J P E c ⟨n, ch i ++ pickEnv ks env, ow i own, F, D⟩ (thenQ (fun s => ∃ j, p j ∧ μ j < μ i ∧ Wk s ⟨n, ch j ++ pickEnv ks env, ow j own, F, D⟩) Q)) : J P E (.loop c) ⟨n, env, own, F, D⟩ Q :=
  J.loop (fun i => ⟨n, ch i ++ pickEnv ks env, ow i own, F, D⟩) p μ i0 h0 hw round
theorem Reown.dropN (k : Nat) (own : List Own) {own' : List Own} (h : own.drop k = own') : Reown own own' := by
  subst h
  have := Reown.drop (own.take k) (own.drop k)
  rwa [List.take_append_drop] at this
end
end Go.Proofs.YtmccnmahegbmpaaGreat.J

/- Deferred calls that recover: their contracts, and contracts of the functions that defer them. Assertions on an interface's value. -/
namespace Go.Proofs.YtmccnmahegbmpaaGreat.J
open Go Go.RowKit
def DC (P : Program) (f : FuncId) (own : List Own) (xs : List AV) (u : FrameMode) (R : Res → FrameMode → List Own → Prop) : Prop :=
  ∀ (w : World) (A0 : Foot) (vs : Array Value), Hp w.heap.size (fps own) A0 own w A0 → RdL w A0 vs xs →
    CallsD P f vs u w fun e u' w' => ∃ r own' A, R r u' own' ∧ Keep (fps own) w w' ∧ Hp w.heap.size (fps own) A0 own' w' A ∧ RdE w' A e r
def JD (P : Program) (E : Ent) (c : Code) (u : FrameMode) (st : St) (Q : Exit → St → FrameMode → Prop) : Prop :=
  ∀ a w (c0 : Frame) (cs : List Frame), c0.mode = u → Sat E st a w → c.wpS P (fun e a' cs' w' => ∃ s' u', Q e s' u' ∧ Sat E s' a' w' ∧ cs' = { c0 with mode := u' } :: cs) a (c0 :: cs) w
section
variable {P : Program} {E : Ent} {st : St} {n : Nat} {env : List (Nat × AV)} {own : List Own} {F : List (Value × AV)} {D : List Deferred} {ops : Array Oper} {rest : List Oper}
variable {A : Foot} {a : Act} {w w' : World} {u u' : FrameMode} {QD : Exit → St → FrameMode → Prop}
theorem JD.of_J {c : Code} (hE : E.rd = none) (h : J P E c st fun e s => QD e s u) : JD P E c u st QD := fun a w c0 cs hu hs => by
  have hin := h a w hs
  rw [hE] at hin
  have hw : c.wp P _ a w := wpIn_wide.1 hin
  refine wpS_of_wp (wp_mono hw fun e a' w' ⟨s, q, hsat⟩ => ⟨s, u, q, hsat, ?_⟩)
  subst hu; rfl
def thenD (K : St → FrameMode → Prop) (Q : Exit → St → FrameMode → Prop) : Exit → St → FrameMode → Prop
  | .normal, s, u => K s u
  | e, s, u => Q e s u
theorem wpS_mono {c : Code} {Q Q' : Exit → Act → List Frame → World → Prop} {cs : List Frame} (h : c.wpS P Q a cs w) (hq : ∀ e a cs w, Q e a cs w → Q' e a cs w) : c.wpS P Q' a cs w :=
  fun b k hb hr => let ⟨e, a', cs', w', q, r⟩ := h b k hb hr; ⟨e, a', cs', w', hq _ _ _ _ q, r⟩
theorem JD.seq {x y : Code} (h : JD P E x u st (thenD (fun s u => JD P E y u s QD) QD)) : JD P E (.seq x y) u st QD := fun a w c0 cs hu hs => by
  refine wpS_seq (wpS_mono (h a w c0 cs hu hs) fun e a' cs' w' ⟨s', u', q, hsat, hcs⟩ => ?_)
  cases e with
  | normal =>
    subst hcs
    exact wpS_mono (q a' w' { c0 with mode := u' } cs rfl hsat) fun e a cs w h => h
  | _ => exact ⟨s', u', q, hsat, hcs⟩
theorem JD.region_recover {id : Nat} {l : List Oper} {d : Nat} {v : Value} {tys : Array TypeId} {ty : TypeId} {pos : String} {af : Array Edge} (hE : E.rd = none) (hd : Nat.blt d n = true)
    (hv : (u = .returning ∧ v = .nilIface ∧ u' = .returning) ∨ ∃ older, u = .panicking ({ v, recovered := false } :: older) ∧ u' = .panicking ({ v, recovered := true } :: older))
    (hl : l = ⟨some d, .call ⟨.builtin .recover, #[], tys⟩, ty, pos, af, none⟩ :: rest)
    (h : JL P E l.toArray rest ⟨n, (d, .c v) :: env, own, F, D⟩ fun e s => QD e s u') :
    JD P E (.region id l.toArray false) u ⟨n, env, own, F, D⟩ QD := fun a w c0 cs hu ⟨A, hA⟩ b k hb hr => by
  subst hl
  have hsat : Sat E ⟨n, (d, .c v) :: env, own, F, D⟩ (a.put (some d) v) w := ⟨A, hA.put (blt_lt hd) (.c v)⟩
  have hlist := h _ w hsat
  rw [hE] at hlist
  have hops := wpOpsIn_eq_wpListIn (F := fen none) (n := 0) (P := P) (ops := (⟨some d, .call ⟨.builtin .recover, #[], tys⟩, ty, pos, af, none⟩ :: rest : List Oper).toArray) (Q := lift E fun e s => QD e s u') rest 1 (fun j => by simp [Nat.add_comm])
  rw [← hops] at hlist
  obtain ⟨e, a', w', ⟨s', hq, hs'⟩, harr⟩ := wp_opsIn (List.range' 1 rest.length) _ w hlist { b with roundOf := none } k ({ c0 with mode := u' } :: cs) rfl trivial (room_wide _)
  have harr' := (arrivesIn_iff (b := { b with roundOf := none }) (fun _ _ => stepsIn_wide) rfl).1 harr
  refine ⟨e, a', { c0 with mode := u' } :: cs, w', ⟨s', u', hq, hs', rfl⟩, ?_⟩
  have harr2 : Arrives P (lone (b.at (a.put (some d) v) (.inRegion (⟨some d, .call ⟨.builtin .recover, #[], tys⟩, ty, pos, af, none⟩ :: rest : List Oper).toArray (List.range' 1 rest.length) :: k)) ({ c0 with mode := u' } :: cs) w) b k ({ c0 with mode := u' } :: cs) e a' w' := harr'
  refine Arrives.of_steps (.one step_region) (Arrives.of_steps (.one ?_) harr2)
  have hrange : List.range ((⟨some d, .call ⟨.builtin .recover, #[], tys⟩, ty, pos, af, none⟩ :: rest : List Oper).toArray).size = 0 :: List.range' 1 rest.length := by
    rw [List.range_eq_range']; simp [List.range'_succ]
  rw [hrange]
  have hk : (b.at a (.inRegion (⟨some d, .call ⟨.builtin .recover, #[], tys⟩, ty, pos, af, none⟩ :: rest : List Oper).toArray (0 :: List.range' 1 rest.length) :: k)).kind = .deferred := hb
  have htr := tryRecover_deferred hk (c0 :: cs)
  have hg := stepG_op (P := P) (b := b) (a := a) (k := k) (cs := c0 :: cs) (w := w) (rest := List.range' 1 rest.length) (ops := (⟨some d, .call ⟨.builtin .recover, #[], tys⟩, ty, pos, af, none⟩ :: rest : List Oper).toArray) (i := 0)
    (o := ⟨some d, .call ⟨.builtin .recover, #[], tys⟩, ty, pos, af, none⟩) (by simp) (by simp [Region.wanted])
  have hrun : (execOp a.eval ⟨some d, .call ⟨.builtin .recover, #[], tys⟩, ty, pos, af, none⟩).run P w = .ok .recover w := by
    simp [execOp, resolve, invoke, builtin]
  have hfin : ∀ v, (b.at a (.inRegion (⟨some d, .call ⟨.builtin .recover, #[], tys⟩, ty, pos, af, none⟩ :: rest : List Oper).toArray (0 :: List.range' 1 rest.length) :: k)).finish v = b.at (a.put (some d) v) (.inRegion (⟨some d, .call ⟨.builtin .recover, #[], tys⟩, ty, pos, af, none⟩ :: rest : List Oper).toArray (List.range' 1 rest.length) :: k) := by
    intro v; rw [Frame.finish_at]; simp
  refine step_lone_go ?_
  rw [hg, ← hfin]
  rcases hv with ⟨h1, h2, h3⟩ | ⟨older, h1, h2⟩
  · subst h2 h3
    have hrec : recoverD (c0 :: cs) = none := by simp [recoverD, hu, h1]
    have hc0 : ({ c0 with mode := .returning } : Frame) = c0 := by rw [← h1, ← hu]
    simp only [Frame.at] at htr ⊢
    simp [stepG.apply, hrun, htr, hrec, hc0]
  · subst h2
    have hrec : recoverD (c0 :: cs) = some (v, { c0 with mode := .panicking ({ v, recovered := true } :: older) } :: cs) := by simp [recoverD, hu, h1]
    simp only [Frame.at] at htr ⊢
    simp [stepG.apply, hrun, htr, hrec]
def retDC (P : Program) (fn : Func) (R : Res → FrameMode → List Own → Prop) : Exit → St → FrameMode → Prop
  | .normal, s, u | .ret, s, u => ∃ x own' dr, RetEv P fn s x ∧ s.dfs = [] ∧ s.own.Perm (own' ++ dr) ∧ R (.ret x) u own'
  | _, _, _ => False
theorem DC.of_JD {f : FuncId} {fn : Func} {c : Code} {N : Nat} {xs : List AV} {R : Res → FrameMode → List Own → Prop} (hf : P.funcs[f]? = some fn) (hb : fn.body = some c) (hN : fn.ntmps = N) (hlen : Nat.ble xs.length N = true)
    (h : ∀ w0 A0, JD P ⟨w0, fps own, A0, none⟩ c u ⟨N, initEnv 0 xs, own, [], []⟩ (retDC P fn R)) : DC P f own xs u R := fun w A0 vs hp hargs => by
  refine callsD_of_wpS hf hb fun c0 cs hu => ?_
  subst hN
  refine wpS_mono (h w A0 _ w c0 cs hu ⟨A0, init_sat hp hargs (Nat.le_of_ble_eq_true hlen)⟩) fun e a' cs' w' ⟨s, u', hq, ⟨A, hs⟩, hcs⟩ => ?_
  have hret : (∃ x own' dr, RetEv P fn s x ∧ s.dfs = [] ∧ s.own.Perm (own' ++ dr) ∧ R (.ret x) u' own') → a'.defers = [] ∧ ∃ u', cs' = { c0 with mode := u' } :: cs ∧ ∃ v, (results fn a'.tmps).run P w' = .ok v w' ∧
      ∃ r own' A, R r u' own' ∧ Keep (fps own) w w' ∧ Hp w.heap.size (fps own) A0 own' w' A ∧ RdE w' A (.returned v) r := by
    rintro ⟨x, own', dr, hx, hd, hp', hR⟩
    obtain ⟨v, h1, h2⟩ := hx _ A a' w' hs
    exact ⟨hs.defers.trans hd, u', hcs, v, h1, .ret x, own', A, hR, hs.keep, (hs.hp.perm hp').left, v, rfl, h2⟩
  cases e with
  | normal => exact hret hq
  | ret => exact hret hq
  | panic chain => exact hq.elim
  | exit id => exact hq.elim
  | goto l => exact hq.elim
  | outgrown => exact hq.elim
/-! ### who defers -/
def modeOf : Exit → Option FrameMode
  | .normal | .ret => some .returning
  | .panic chain => some (.panicking chain)
  | _ => none
def retD (P : Program) (fn : Func) (R : Res → List Own → Prop) (e : Exit) (s : St) : Prop :=
  ∃ u g fi ca op ro, modeOf e = some u ∧ s.dfs = [⟨.fn (.func g) (List.toArray ca), List.toArray fi⟩] ∧ goFn P g = true ∧ s.own.Perm (op ++ ro) ∧
    DC P g op ((fi ++ ca).map AV.c) u fun r u' own' => (∃ x, r = .ret x) ∧ settle u' = .returning ∧ ∃ y own'' dr, RetEv P fn ⟨s.n, s.env, own' ++ ro, s.facts, s.dfs⟩ y ∧ (own' ++ ro).Perm (own'' ++ dr) ∧ R (.ret y) own''
theorem AC.of_JD {f : FuncId} {fn : Func} {c : Code} {N : Nat} {xs : List AV} {R : Res → List Own → Prop} (hf : P.funcs[f]? = some fn) (hb : fn.body = some c) (hN : fn.ntmps = N) (hlen : Nat.ble xs.length N = true)
    (h : ∀ w0 A0, J P ⟨w0, fps own, A0, none⟩ c ⟨N, initEnv 0 xs, own, [], []⟩ (retD P fn R)) : AC P f own xs R := fun w A0 vs hp hargs => by
  refine calls_of_wp_defers hf hb ?_
  subst hN
  have hin : c.wpIn Fence.wide 0 P _ _ w := h w A0 _ w ⟨A0, init_sat hp hargs (Nat.le_of_ble_eq_true hlen)⟩
  refine wp_mono (wpIn_wide.1 hin) fun e a' w' ⟨s, ⟨u, g, fi, ca, op, ro, hu, hdf, hg, hperm, hD⟩, A, hs⟩ => ?_
  obtain ⟨n, env, own1, F, D⟩ := s
  simp only at hdf hperm
  have hs' := hs.perm hperm
  have hleave : u ≠ .run → Leaves P fn a'.tmps (fun e w' => ∃ r own' A, R r own' ∧ Keep (fps own) w w' ∧ Hp w.heap.size (fps own) A0 own' w' A ∧ RdE w' A e r) a'.defers u w' := by
    intro hne
    rw [hs.defers]
    simp only
    rw [hdf]
    refine leaves_cons (args := fi.toArray ++ ca.toArray) (f := g) hne (by simp only [invoke, goFn_run hg]) ?_
    have hrl : RdL w' A (fi.toArray ++ ca.toArray) ((fi ++ ca).map AV.c) := by
      refine ⟨by simp, fun i z hz => ?_⟩
      rw [List.getElem?_map] at hz
      cases hv : (fi ++ ca)[i]? with
      | none => rw [hv] at hz; cases hz
      | some v =>
        rw [hv] at hz; cases hz
        have : (fi.toArray ++ ca.toArray).getD i undef = v := by
          rw [List.append_toArray, Array.getD_eq_getD_getElem?, List.getElem?_toArray, hv]; rfl
        rw [this]; exact .c v
    refine (hD w' A _ hs'.callee hrl).mono ?_
    rintro e u' w'' ⟨r, own', A', ⟨⟨x, rfl⟩, hst, y, own'', dr, hev, hp2, hR⟩, hk, hp', v, rfl, hv⟩
    have hcalled := hs'.called hk hp'
    simp only
    rw [hst]
    obtain ⟨v', g1, g2⟩ := hev _ A' a' w'' hcalled
    exact ⟨v', g1, .ret y, own'', A', hR, hcalled.keep, (hcalled.hp.perm hp2).left, v', rfl, g2⟩
  cases e with
  | normal => simp only [modeOf, Option.some.injEq] at hu; subst hu; exact hleave (by simp)
  | ret => simp only [modeOf, Option.some.injEq] at hu; subst hu; exact hleave (by simp)
  | panic chain => simp only [modeOf, Option.some.injEq] at hu; subst hu; exact hleave (by simp)
  | exit id => simp [modeOf] at hu
  | goto l => simp [modeOf] at hu
  | outgrown => simp [modeOf] at hu
theorem JL.defer {w0 : World} {fp0 : List Nat} {A0 : Foot} {Q : Exit → St → Prop} {dd : Option Tmp} {fo : Operand} {g : FuncId} {fi ca : List Value} {tys : Array TypeId} {ty : TypeId} {pos : String} {af : Array Edge} (hdd : dd = none)
    (hfo : Ev ⟨w0, fp0, A0, none⟩ ⟨n, env, own, F, D⟩ fo (.c (.func (.func g) fi.toArray ca.toArray)))
    (h : JL P ⟨w0, fp0, A0, none⟩ ops rest ⟨n, env, own, F, ⟨.fn (.func g) ca.toArray, fi.toArray⟩ :: D⟩ Q) :
    JL P ⟨w0, fp0, A0, none⟩ ops (⟨dd, .defer ⟨.value fo, #[], tys⟩, ty, pos, af, none⟩ :: rest) ⟨n, env, own, F, D⟩ Q := fun a w ⟨A, hA⟩ => by
  subst hdd
  refine wpListIn_plain rfl fun K hK => ?_
  refine ⟨fun _ _ => trivial, ?_⟩
  have hrun : ((⟨none, .defer ⟨.value fo, #[], tys⟩, ty, pos, af, none⟩ : Oper).semAt (fen none).round a.eval).run P w = .ok (.defer ⟨.fn (.func g) ca.toArray, fi.toArray⟩) w := by
    show (execOp a.eval ⟨none, .defer ⟨.value fo, #[], tys⟩, ty, pos, af, none⟩).run P w = _
    simp [execOp, resolve, hfo.eq hA, Deferred.ofValue]
  rw [show (fen (Ent.rd ⟨w0, fp0, A0, none⟩)) = fen none from rfl, hrun, Oper.uponIn_defer]
  refine hK _ _ (h _ _ ⟨A, ?_⟩)
  exact ⟨hA.size, by show _ :: a.defers = _; rw [hA.defers], hA.keep, hA.hp, hA.env, hA.facts⟩
/-! ### what an interface's value is -/
theorem QW.assert_hit {st : St} {dd : Option Tmp} {x : Operand} {xt t ty : TypeId} {pos : String} {af : Array Edge} {gd : Option (Nat × Bool)} {v : Value} (hU : ∃ d, P.underlying t = some d ∧ ∀ ms, d ≠ .interface ms) (hx : Ev E st x (.c (.iface t v))) :
    QW P E st ⟨dd, .typeAssert x xt t true, ty, pos, af, gd⟩ (.tup [.c v, .c (.bool true)]) := .pure fun A a w hs => by
  obtain ⟨d, h1, h2⟩ := hU
  refine ⟨.tuple #[v, .bool true], ?_, .mk_tup rfl fun k y hk => ?_⟩
  · simp only [execOp, hx.eq hs, Instr.typeAssert, Sem.run_bind, run_underlying _ h1, Result.andThen_ok]
    cases d <;> first | exact absurd rfl (h2 _) | simp
  · match k, hk with
    | 0, hk => simp at hk; subst hk; exact ⟨v, rfl, .c v⟩
    | 1, hk => simp at hk; subst hk; exact ⟨.bool true, rfl, .c _⟩
theorem QW.assert_nil {st : St} {dd : Option Tmp} {x : Operand} {xt t ty : TypeId} {pos : String} {af : Array Edge} {gd : Option (Nat × Bool)} {z : Value} (hU : ∃ d, P.underlying t = some d ∧ ∀ ms, d ≠ .interface ms) (hz : ∀ w, (zeroValue t).run P w = .ok z w) (hx : Ev E st x (.c .nilIface)) :
    QW P E st ⟨dd, .typeAssert x xt t true, ty, pos, af, gd⟩ (.tup [.c z, .c (.bool false)]) := .pure fun A a w hs => by
  obtain ⟨d, h1, h2⟩ := hU
  refine ⟨.tuple #[z, .bool false], ?_, .mk_tup rfl fun k y hk => ?_⟩
  · simp only [execOp, hx.eq hs, Instr.typeAssert, Sem.run_bind, run_underlying _ h1, Result.andThen_ok]
    cases d <;> first | exact absurd rfl (h2 _) | simp [hz]
  · match k, hk with
    | 0, hk => simp at hk; subst hk; exact ⟨z, rfl, .c z⟩
    | 1, hk => simp at hk; subst hk; exact ⟨.bool false, rfl, .c _⟩
end
end Go.Proofs.YtmccnmahegbmpaaGreat.J

/- A region that draws its order, with calls and stores that turn what is owned among its operations: whatever the order, all reads as in the order of the text. -/
namespace Go.Proofs.YtmccnmahegbmpaaGreat.J
open Go Go.RowKit
abbrev Outs := List (AV × List Own)
def curO (own : List Own) : Outs → List Own
  | [] => own
  | (_, o) :: _ => o
def vdO (own : List Own) (R : Outs → List Own → AV → List Own → Prop) : Outs → Prop
  | [] => True
  | (x, o) :: os => R os (curO own os) x o ∧ vdO own R os
def nthO (os : Outs) (j : Nat) : AV := ((os.reverse)[j]?.map (·.1)).getD (.c undef)
abbrev Slot := Nat × (AV ⊕ (Nat × (AV → AV)))
def valO (os : Outs) : AV ⊕ (Nat × (AV → AV)) → AV
  | .inl x => x
  | .inr (j, g) => g (nthO os j)
def stepsO (os : Outs) (l : List Slot) : List (Nat × AV) := l.map fun p => (p.1, valO os p.2)
theorem nthO_cons {os : Outs} {p : AV × List Own} {j : Nat} (h : j < os.length) : nthO (p :: os) j = nthO os j := by
  unfold nthO
  rw [List.reverse_cons, List.getElem?_append_left (by simpa using h)]
theorem nthO_last {os : Outs} {p : AV × List Own} : nthO (p :: os) os.length = p.1 := by
  unfold nthO
  rw [List.reverse_cons, List.getElem?_append_right (by simp)]
  simp
def LStepR (P : Program) (E : Ent) (Q : Exit → St → Prop) (st : St) (R : List Own → AV → List Own → Prop) (o : Oper) : Prop :=
  ∀ A a w, SatA E A st a w → ∀ (K : Act → World → Prop),
    (∀ v x own' w' A', R st.own x own' → Frm w A w' A' → SatA E A' ⟨st.n, st.env, own', st.facts, st.dfs⟩ a w' → Rd w' A' v x → K (a.put o.dst v) w') → o.wpIn (fen E.rd) 0 P a w K (lift E Q)
def EnvOkR (o : Oper) (don : List Slot) (env env' : List (Nat × AV)) : Prop := ∀ s x, lk env' s = some x → (∃ j, depsOk o [j] = true ∧ don[j]? = some (s, .inl x)) ∨ lk env s = some x
def EnvOkO (o : Oper) (don : List Slot) (env env' : List (Nat × AV)) (os : Outs) : Prop := ∀ s x, lk env' s = some x → (∃ j z, depsOk o [j] = true ∧ don[j]? = some (s, z) ∧ x = valO os z) ∨ lk env s = some x
inductive AnyR (P : Program) (E : Ent) (Q : Exit → St → Prop) (ops : Array Oper) (n : Nat) (env : List (Nat × AV)) (own : List Own) (R : Outs → List Own → AV → List Own → Prop) (M : Nat) (F : List (Value × AV)) (D : List Deferred) : Nat → Nat → Nat → List Oper → List Slot → List Slot → List (Option Nat) → Prop
  | nil (i p : Nat) (don : List Slot) : AnyR P E Q ops n env own R M F D i M p [] don don []
  | quiet {i j p : Nat} {o : Oper} {os : List Oper} {don all : List Slot} {lv : List (Option Nat)} {d : Nat} {x : AV} {env' : List (Nat × AV)} (hd : o.dst = some d) (hn : Nat.blt d n = true) (he : EnvOkR o don env env')
      (hs : ∀ os', vdO own R os' → os'.length ≤ M → Step P E ops ⟨n, env', curO own os', F, D⟩ o x) (h : AnyR P E Q ops n env own R M F D (i + 1) j p os (don ++ [(d, .inl x)]) all lv) : AnyR P E Q ops n env own R M F D i j p (o :: os) don all (none :: lv)
  | loud {i j p : Nat} {o : Oper} {os : List Oper} {don all : List Slot} {lv : List (Option Nat)} {env' : Outs → List (Nat × AV)} {s : Nat} (hd : (o.dst = none ∧ s = n + i ∧ ∀ os ow x o', R os ow x o' → os.length = j → x = .c undef) ∨ (o.dst = some s ∧ s < n)) (hg : o.guard = none) (he : ∀ os', os'.length = j → EnvOkO o don env (env' os') os') (hp : (Nat.beq j 0 || depsOk o [p]) = true)
      (hs : ∀ os', vdO own R os' → os'.length = j → LStepR P E Q ⟨n, env' os', curO own os', F, D⟩ (R os') o) (h : AnyR P E Q ops n env own R M F D (i + 1) (j + 1) i os (don ++ [(s, .inr (j, id))]) all lv) : AnyR P E Q ops n env own R M F D i j p (o :: os) don all (some j :: lv)
section
variable {P : Program} {E : Ent} {Q : Exit → St → Prop} {n : Nat} {env : List (Nat × AV)} {own : List Own} {R : Outs → List Own → AV → List Own → Prop} {M : Nat} {F : List (Value × AV)} {D : List Deferred} {ops : Array Oper}
theorem AnyR.get {i j p : Nat} {os : List Oper} {don all : List Slot} {lv : List (Option Nat)} (h : AnyR P E Q ops n env own R M F D i j p os don all lv) (hi : don.length = i) :
    (∃ r, all = don ++ r) ∧ all.length = don.length + os.length ∧ lv.length = os.length ∧ j ≤ M ∧
    (∀ (k q : Nat), lv[k]? = some (some q) → j ≤ q ∧ q < M) ∧
    (∀ (k k' q : Nat), lv[k]? = some (some q) → lv[k']? = some (some q) → k = k') ∧
    (∀ q, j ≤ q → q < M → ∃ k : Nat, lv[k]? = some (some q)) ∧
    ∀ k o, os[k]? = some o →
      (lv[k]? = some none ∧ ∃ d x env', all[i + k]? = some (d, .inl x) ∧ o.dst = some d ∧ d < n ∧ EnvOkR o (all.take (i + k)) env env' ∧ ∀ os', vdO own R os' → os'.length ≤ M → Step P E ops ⟨n, env', curO own os', F, D⟩ o x) ∨
      (∃ (q : Nat) (env' : Outs → List (Nat × AV)) (s : Nat), lv[k]? = some (some q) ∧ all[i + k]? = some (s, .inr (q, id)) ∧ ((o.dst = none ∧ s = n + (i + k) ∧ ∀ os ow x o', R os ow x o' → os.length = q → x = .c undef) ∨ (o.dst = some s ∧ s < n)) ∧ o.guard = none ∧ (∀ os', os'.length = q → EnvOkO o (all.take (i + k)) env (env' os') os') ∧ (∀ os', vdO own R os' → os'.length = q → LStepR P E Q ⟨n, env' os', curO own os', F, D⟩ (R os') o) ∧
        (q = j → j = 0 ∨ depsOk o [p] = true) ∧ (j < q → ∃ k', lv[k']? = some (some (q - 1)) ∧ depsOk o [i + k'] = true)) := by
  induction h with
  | nil i p don => exact ⟨⟨[], by simp⟩, by simp, rfl, Nat.le_refl _, fun k q h => by simp at h, fun k k' q h => by simp at h, fun q h1 h2 => by omega, fun k o h => by simp at h⟩
  | quiet hd hn hds hs _ ih =>
    rename_i i j p o os don all lv d x env' _
    obtain ⟨⟨r, hr⟩, hl, hlv, hjM, hq, hinj, hsur, hk⟩ := ih (by simp [hi])
    refine ⟨⟨(d, .inl x) :: r, by rw [hr]; simp⟩, by simp at hl ⊢; omega, by simp [hlv], hjM, fun k q hkq => ?_, fun k k' q h1 h2 => ?_, fun q h1 h2 => (by obtain ⟨k, hk'⟩ := hsur q h1 h2; exact ⟨k + 1, by simpa using hk'⟩), fun k o' ho' => ?_⟩
    · cases k with
      | zero => simp at hkq
      | succ k => exact hq k q (by simpa using hkq)
    · cases k with
      | zero => simp at h1
      | succ k =>
        cases k' with
        | zero => simp at h2
        | succ k' => rw [hinj k k' q (by simpa using h1) (by simpa using h2)]
    · cases k with
      | zero =>
        simp at ho'; subst ho'
        have : all.take (i + 0) = don := by rw [hr, ← hi]; simp
        exact .inl ⟨by simp, d, x, env', by rw [hr, ← hi]; simp, hd, blt_lt hn, by rw [this]; exact hds, hs⟩
      | succ k =>
        have := hk k o' (by simpa using ho')
        rw [show i + (k + 1) = i + 1 + k by omega]
        rcases this with ⟨h1, h2⟩ | ⟨q, ds', s', h1, h2, h3, h4, h5, h6, h7, h8⟩
        · exact .inl ⟨by simpa using h1, h2⟩
        · refine .inr ⟨q, ds', s', by simpa using h1, h2, h3, h4, h5, h6, h7, fun hlt => ?_⟩
          obtain ⟨k', hk', hd'⟩ := h8 hlt
          exact ⟨k' + 1, by simpa using hk', by rw [show i + (k' + 1) = i + 1 + k' by omega]; exact hd'⟩
  | loud hd hg hds hp hs _ ih =>
    rename_i i j p o os don all lv env' s _
    obtain ⟨⟨r, hr⟩, hl, hlv, hjM, hq, hinj, hsur, hk⟩ := ih (by simp [hi])
    refine ⟨⟨(s, .inr (j, id)) :: r, by rw [hr]; simp⟩, by simp at hl ⊢; omega, by simp [hlv], by omega, fun k q hkq => ?_, fun k k' q h1 h2 => ?_, fun q h1 h2 => (by
      by_cases he : q = j
      · exact ⟨0, by simp [he]⟩
      · obtain ⟨k, hk'⟩ := hsur q (by omega) h2; exact ⟨k + 1, by simpa using hk'⟩), fun k o' ho' => ?_⟩
    · cases k with
      | zero => simp at hkq; omega
      | succ k => have := hq k q (by simpa using hkq); omega
    · cases k with
      | zero =>
        cases k' with
        | zero => rfl
        | succ k' => simp at h1 h2; have := hq k' q h2; omega
      | succ k =>
        cases k' with
        | zero => simp at h1 h2; have := hq k q h1; omega
        | succ k' => rw [hinj k k' q (by simpa using h1) (by simpa using h2)]
    · cases k with
      | zero =>
        simp at ho'; subst ho'
        have : all.take (i + 0) = don := by rw [hr, ← hi]; simp
        refine .inr ⟨j, env', s, by simp, by rw [hr, ← hi]; simp, by simpa using hd, hg, by rw [this]; exact hds, hs, fun _ => ?_, fun h => by omega⟩
        · simp only [Bool.or_eq_true] at hp
          exact hp.imp Nat.eq_of_beq_eq_true id
      | succ k =>
        have := hk k o' (by simpa using ho')
        rw [show i + (k + 1) = i + 1 + k by omega]
        rcases this with ⟨h1, h2⟩ | ⟨q, ds', s', h1, h2, h3, h4, h5, h6, h7, h8⟩
        · exact .inl ⟨by simpa using h1, h2⟩
        · have hjq := (hq k q h1).1
          refine .inr ⟨q, ds', s', by simpa using h1, h2, h3, h4, h5, h6, fun h => by omega, fun hlt => ?_⟩
          by_cases he : q = j + 1
          · refine ⟨0, by simp [he], ?_⟩
            rcases h7 he with h7 | h7
            · omega
            · simpa using h7
          · obtain ⟨k', hk', hd'⟩ := h8 (by omega)
            exact ⟨k' + 1, by simpa using hk', by rw [show i + (k' + 1) = i + 1 + k' by omega]; exact hd'⟩
theorem J.region_out {id : Nat} {l pre tail : List Oper} {steps : List Slot} {lv : List (Option Nat)} (hm : P.follows .mixedOrders = true) (hl : l = pre ++ tail) (hnd : nodupB (dsts pre) = true) (hbk : backB 0 l = true) (ht : tailOk pre.length l = true)
    (hany : AnyR P E Q l.toArray n (dropEnv (dsts pre) env) own R M F D 0 0 0 pre [] steps lv)
    (h : ∀ os', vdO own R os' → os'.length = M → JL P E l.toArray tail ⟨n, stepsO os' steps ++ dropEnv (dsts pre) env, curO own os', F, D⟩ Q) :
    J P E (.region id l.toArray true) ⟨n, env, own, F, D⟩ Q := fun a₀ w₀ ⟨A₀, hA₀⟩ => by
  obtain ⟨_, hlen, hlvl, _, hlq, hinj, hsur, hst⟩ := hany.get rfl
  simp only [List.length_nil, Nat.zero_add] at hlen hst
  have hsize : l.toArray.size = pre.length + tail.length := by simp [hl]
  have hpre : ∀ i o, i < pre.length → (l.toArray[i]? = some o ↔ pre[i]? = some o) := fun i o hi => by simp [hl, List.getElem?_append_left hi]
  let k := pre.length
  let Inv : Array Bool → Foot → Act → World → Prop := fun L A a w => ∃ os', vdO own R os' ∧ os'.length ≤ M ∧ SatA E A ⟨n, dropEnv (dsts pre) env, curO own os', F, D⟩ a w ∧
    (∀ i d x, steps[i]? = some (d, x) → L.getD i false = true → Rd w A (a.tmps.getD d undef) (valO os' x)) ∧
    (∀ i o, l.toArray[i]? = some o → L.getD i false = true → ∀ e ∈ o.after, Region.binds .any e = true → L.getD e.on false = true) ∧
    (∀ i, pre.length ≤ i → L.getD i false = false) ∧ (∀ i q : Nat, lv[i]? = some (some q) → (L.getD i false = true ↔ q < os'.length))
  have hdone : ∀ fuel L A a w, L.size = l.toArray.size → tail.length ≤ fuel → (∀ i, i < pre.length → L.getD i true = true) → Inv L A a w → wpAnyIn (fen E.rd) 0 P .any l.toArray (lift E Q) fuel L a w := by
    intro fuel L A a w hsz hf hall ⟨os', hvd, hmM, h1, h2, h3, h4, h5⟩
    obtain ⟨m, hmm⟩ : ∃ m, m = os'.length := ⟨_, rfl⟩
    rw [← hmm] at hmM h5
    have hall' : ∀ i, i < pre.length → L.getD i false = true := fun i hi => by rw [← getD_same (by omega)]; exact hall i hi
    have hm' : m = M := by
      apply Nat.le_antisymm hmM
      apply Nat.le_of_not_lt
      intro hlt
      obtain ⟨i, hi⟩ := hsur m (Nat.zero_le _) hlt
      have hil : i < pre.length := by have := (List.getElem?_eq_some_iff.1 hi).1; omega
      have := (h5 i m hi).1 (hall' i hil)
      omega
    rw [hm'] at hmm
    refine wp_tail (k := pre.length) (by simpa using ht) (by simpa using hbk) fuel pre.length L a w (Nat.le_refl _) (by omega) (by omega) hsz hall' h4 ?_
    have htl : l.toArray.toList.drop pre.length = tail := by simp [hl]
    rw [htl]
    refine h os' hvd hmm.symm a w ⟨A, h1.size, h1.defers, h1.keep, h1.hp, fun s x hl' => ?_, h1.facts⟩
    have hget : ∀ (l' : List (Nat × AV)) (env' : List (Nat × AV)), lk (l' ++ env') s = some x → (∃ i : Nat, l'[i]? = some (s, x)) ∨ lk env' s = some x := by
      intro l' env'
      induction l' with
      | nil => intro h; exact .inr h
      | cons p l' ih =>
        intro h
        obtain ⟨j, y⟩ := p
        rcases lk_cons h with ⟨rfl, rfl⟩ | ⟨_, h⟩
        · exact .inl ⟨0, rfl⟩
        · rcases ih h with ⟨i, hi⟩ | h
          · exact .inl ⟨i + 1, by simpa using hi⟩
          · exact .inr h
    rcases hget _ _ hl' with ⟨i, hi⟩ | hl'
    · simp only [stepsO, List.getElem?_map] at hi
      cases hsi : steps[i]? with
      | none => rw [hsi] at hi; cases hi
      | some p =>
        obtain ⟨s', z⟩ := p
        rw [hsi] at hi
        simp only [Option.map_some, Option.some.injEq, Prod.mk.injEq] at hi
        obtain ⟨rfl, rfl⟩ := hi
        exact h2 i s' z hsi (hall' i (by have := (List.getElem?_eq_some_iff.1 hsi).1; omega))
    · exact h1.env s x hl'
  have key : ∀ fuel L A a w, L.size = l.toArray.size → cnt pre.length (fun i => !L.getD i true) + tail.length ≤ fuel → Inv L A a w → wpAnyIn (fen E.rd) 0 P .any l.toArray (lift E Q) fuel L a w := by
    intro fuel
    induction fuel with
    | zero =>
      intro L A a w hsz hc hinv
      refine hdone 0 L A a w hsz (by omega) (fun i hi => ?_) hinv
      have h0 : cnt pre.length (fun i => !L.getD i true) = 0 := by omega
      have := List.countP_eq_zero.1 h0 i (by simpa using hi)
      simpa using this
    | succ fuel ih =>
      intro L A a w hsz hc hinv
      by_cases hall : ∀ i, i < pre.length → L.getD i true = true
      · exact hdone _ L A a w hsz (by omega) hall hinv
      have hinv' := hinv
      obtain ⟨os', hvd, hmM, h1, h2, h3, h4, h5⟩ := hinv
      refine ⟨fun hr => ?_, fun i hi => ?_⟩
      · exfalso
        apply hall
        intro i
        induction i using Nat.strongRecOn with
        | _ i ihi =>
          intro hlt
          cases hL : L.getD i true with
          | true => rfl
          | false =>
            exfalso
            obtain ⟨o, ho⟩ : ∃ o, l.toArray[i]? = some o := ⟨_, Array.getElem?_eq_getElem (by omega)⟩
            have : i ∈ Region.ready .any l.toArray L := ready_mem hsz ho hL fun e he hb => by
              have hon := backB_lt hbk (i := i) (o := o) (by simpa using ho) e he hb
              rw [← getD_same (by omega)]
              exact ihi e.on (by omega) (by omega)
            rw [hr] at this
            cases this
      · obtain ⟨hlt, o, ho, hunl, hdeps⟩ := mem_ready hi
        have hik : i < pre.length := by
          apply Nat.lt_of_not_le
          intro hge
          apply hall
          intro j hj
          rw [getD_same (by omega)]
          exact (tail_closed (k := pre.length) (by simpa using ht) (by simpa using hbk) h3 ho hdeps hge).1 j hj
        have ho' : pre[i]? = some o := (hpre i o hik).1 ho
        have hunl' : L.getD i false = false := by rw [← getD_same (by omega)]; exact hunl
        have hcnt : cnt pre.length (fun j => !(L.setIfInBounds i true).getD j true) + tail.length ≤ fuel := by
          have := cnt_set (fun i => !L.getD i true) (fun j => !(L.setIfInBounds i true).getD j true) i (fun j hj => by rw [getD_set _ _ _ (by omega), if_neg hj]) (by simp [hunl]) (by rw [getD_set _ _ _ (by omega), if_pos rfl]; rfl) pre.length
          rw [if_pos hik] at this
          omega
        have hclo : ∀ j o', l.toArray[j]? = some o' → (L.setIfInBounds i true).getD j false = true → ∀ e ∈ o'.after, Region.binds .any e = true → (L.setIfInBounds i true).getD e.on false = true := by
          intro j o' ho2 hLj e he hb
          rw [getD_set _ _ _ (by omega)] at hLj ⊢
          split
          · rfl
          · by_cases hji : j = i
            · subst hji; rw [ho] at ho2; cases ho2; exact hdeps e he hb
            · rw [if_neg hji] at hLj; exact h3 j o' ho2 hLj e he hb
        have h4' : ∀ j, pre.length ≤ j → (L.setIfInBounds i true).getD j false = false := fun j hj => by rw [getD_set _ _ _ (by omega), if_neg (by omega)]; exact h4 j hj
        have hsat : ∀ (env' : List (Nat × AV)), EnvOkR o (steps.take i) (dropEnv (dsts pre) env) env' → SatA E A ⟨n, env', curO own os', F, D⟩ a w := by
          intro env' he
          refine ⟨h1.size, h1.defers, h1.keep, h1.hp, fun s y hl => ?_, h1.facts⟩
          rcases he s y hl with ⟨j, hj, hp⟩ | h
          · obtain ⟨e, he, hb, hon⟩ := depsOk_get hj (List.mem_singleton.2 rfl)
            have hLj := hdeps e he hb
            rw [hon] at hLj
            refine h2 j s (.inl y) ?_ hLj
            rw [List.getElem?_take] at hp
            split at hp
            · exact hp
            · cases hp
          · exact h1.env s y h
        have hsatO : ∀ (env' : List (Nat × AV)), EnvOkO o (steps.take i) (dropEnv (dsts pre) env) env' os' → SatA E A ⟨n, env', curO own os', F, D⟩ a w := by
          intro env' he
          refine ⟨h1.size, h1.defers, h1.keep, h1.hp, fun s y hl => ?_, h1.facts⟩
          rcases he s y hl with ⟨j, z, hj, hp, hz⟩ | h
          · obtain ⟨e, he, hb, hon⟩ := depsOk_get hj (List.mem_singleton.2 rfl)
            have hLj := hdeps e he hb
            rw [hon] at hLj
            rw [hz]
            refine h2 j s z ?_ hLj
            rw [List.getElem?_take] at hp
            split at hp
            · exact hp
            · cases hp
          · exact h1.env s y h
        -- a slot of another operation
        have hother : ∀ j d' x', steps[j]? = some (d', x') → j ≠ i → ∀ d, o.dst = some d → d < n → d ≠ d' := by
          intro j d' x' hj hji d hd hdn hdd
          subst hdd
          have hjlt : j < pre.length := by have := (List.getElem?_eq_some_iff.1 hj).1; omega
          obtain ⟨oj, hoj⟩ : ∃ oj, pre[j]? = some oj := ⟨_, List.getElem?_eq_getElem hjlt⟩
          rcases hst j oj hoj with ⟨_, dj, xj, _, hsj, hdj, _⟩ | ⟨_, _, sj, _, hsj, hdj, _⟩
          · rw [hsj] at hj; cases hj
            exact hji (nodupB_ne hnd hoj ho' hdj hd)
          · rw [hsj] at hj
            have h7 := (Prod.mk.inj (Option.some.inj hj)).1
            rcases hdj with ⟨_, hdj, _⟩ | ⟨hdj, _⟩
            · exact absurd hdn (by rw [← h7, hdj]; exact Nat.not_lt.2 (Nat.le_add_right _ _))
            · rw [h7] at hdj
              exact hji (nodupB_ne hnd hoj ho' hdj hd)
        rcases hst i o ho' with ⟨hlv, d, x, env', hsx, hd, hdn, hds, hstep⟩ | ⟨q, env', sl, hlv, hsx, hd, hg, hds, hstep, hq0, hqp⟩
        · have hput : ∀ (v : Value) (w' : World) (A' : Foot), Frm w A w' A' → SatA E A' ⟨n, env', curO own os', F, D⟩ a w' → Rd w' A' v x →
              wpAnyIn (fen E.rd) 0 P .any l.toArray (lift E Q) fuel (L.setIfInBounds i true) (a.put o.dst v) w' := by
            intro v w' A' hf hs' hv
            refine ih _ A' _ w' (by simpa using hsz) hcnt ⟨os', hvd, hmM, ⟨?_, by rw [hd]; exact hs'.defers, hs'.keep, hs'.hp, fun s y hl => ?_, hs'.facts⟩, fun j d' x' hj hLj => ?_, hclo, h4', fun j q hjq => ?_⟩
            · have := hs'.size; simp only [Act.put, hd, Array.size_setIfInBounds]; exact this
            · rw [hd]
              have hne : d ≠ s := by
                intro hds'
                subst hds'
                have := (lk_filter (fun k => !((dsts pre).any (Nat.beq k))) env d y hl).2
                simp only [Bool.not_eq_true'] at this
                have hm := List.any_eq_false.1 this d (dsts_mem ho' hd)
                simp at hm
              rw [put_getD_ne hne]
              exact hf _ _ (h1.env s y hl)
            · rw [getD_set _ _ _ (by omega)] at hLj
              by_cases hji : j = i
              · subst hji
                rw [hsx] at hj; cases hj
                rw [hd, put_getD_same (by have := hs'.size; simp only at this; rw [this]; exact hdn)]
                exact hv
              · rw [if_neg hji] at hLj
                rw [hd, put_getD_ne (hother j d' x' hj hji d hd hdn)]
                exact hf _ _ (h2 j d' x' hj hLj)
            · rw [getD_set _ _ _ (by omega)]
              by_cases hji : j = i
              · subst hji; rw [hlv] at hjq; cases hjq
              · rw [if_neg hji]; exact h5 j q hjq
          have hs := hstep os' hvd hmM A a w (hsat env' hds) (wpAnyIn (fen E.rd) 0 P .any l.toArray (lift E Q) fuel (L.setIfInBounds i true)) (lift E Q) hput
          unfold wpOpIn
          simp only [ho]
          split
          · rename_i hw; rw [if_pos hw] at hs; exact hs
          · rename_i hw; rw [if_neg hw] at hs; exact ⟨fun _ _ => trivial, hs⟩
        · -- one that turns what is owned: it is its turn
          have hqM := (hlq i q hlv).2
          have hmq : os'.length = q := by
            have h6 : ¬ q < os'.length := fun h => by have := (h5 i q hlv).2 h; rw [hunl'] at this; cases this
            by_cases hq : 0 < q
            · obtain ⟨k', hk', hd'⟩ := hqp hq
              obtain ⟨e, he, hb, hon⟩ := depsOk_get hd' (List.mem_singleton.2 rfl)
              have := hdeps e he hb
              rw [hon] at this
              have := (h5 k' (q - 1) hk').1 this
              omega
            · omega
          have hs := hstep os' hvd hmq A a w (hsatO _ (hds os' hmq)) (wpAnyIn (fen E.rd) 0 P .any l.toArray (lift E Q) fuel (L.setIfInBounds i true)) (by
            intro v x own' w' A' hR hf hs' hv
            have hvd' : vdO own R ((x, own') :: os') := ⟨hR, hvd⟩
            have hold : ∀ z : AV ⊕ (Nat × (AV → AV)), (∀ j g, z = .inr (j, g) → j < os'.length) → valO ((x, own') :: os') z = valO os' z := fun z hz => by
              cases z with
              | inl z => rfl
              | inr j => exact congrArg j.2 (nthO_cons (hz j.1 j.2 rfl))
            have hsl : ∀ j d' x', steps[j]? = some (d', x') → L.getD j false = true → ∀ jj g, x' = .inr (jj, g) → jj < os'.length := fun j d' x' hj hLj jj g hx' => by
              subst hx'
              have hjlt : j < pre.length := by have := (List.getElem?_eq_some_iff.1 hj).1; omega
              obtain ⟨oj, hoj⟩ : ∃ oj, pre[j]? = some oj := ⟨_, List.getElem?_eq_getElem hjlt⟩
              rcases hst j oj hoj with ⟨_, dj, xj, _, hsj, _⟩ | ⟨qj, _, sj, hlvj, hsj, _⟩
              · rw [hsj] at hj; cases hj
              · rw [hsj] at hj; cases hj
                exact (h5 j _ hlvj).1 hLj
            have hputslot : ∀ d', (∀ d, o.dst = some d → d < n → d ≠ d') → (a.put o.dst v).tmps.getD d' undef = a.tmps.getD d' undef := fun d' hne => by
              rcases hd with ⟨hd, _⟩ | ⟨hd, hdn⟩
              · rw [hd]; rfl
              · rw [hd]; exact put_getD_ne (hne _ hd hdn)
            refine ih _ A' _ w' (by simpa using hsz) hcnt ⟨(x, own') :: os', hvd', by simp only [List.length_cons]; omega, ⟨?_, by
                have := hs'.defers
                rcases hd with ⟨hd, _⟩ | ⟨hd, _⟩ <;> (rw [hd]; exact this), hs'.keep, hs'.hp, fun s y hl => ?_, hs'.facts⟩, fun j d' x' hj hLj => ?_, hclo, h4', fun j q' hjq => ?_⟩
            · have := hs'.size
              rcases hd with ⟨hd, _⟩ | ⟨hd, _⟩
              · rw [hd]; exact this
              · simp only [Act.put, hd, Array.size_setIfInBounds]; exact this
            · rw [hputslot s (fun d hd' hdn hds' => by
                subst hds'
                have := (lk_filter (fun k => !((dsts pre).any (Nat.beq k))) env d y hl).2
                simp only [Bool.not_eq_true'] at this
                have hm := List.any_eq_false.1 this d (dsts_mem ho' hd')
                simp at hm)]
              exact hf _ _ (h1.env s y hl)
            · rw [getD_set _ _ _ (by omega)] at hLj
              by_cases hji : j = i
              · subst hji
                rw [hsx] at hj; cases hj
                show Rd w' A' _ (nthO ((x, own') :: os') q)
                rw [← hmq, nthO_last]
                rcases hd with ⟨hd, hsl', hru⟩ | ⟨hd, hdn⟩
                · have hu : (a.put o.dst v).tmps.getD sl undef = undef := by
                    have := h1.size
                    simp only at this
                    rw [hd, hsl']
                    simp [Act.put, Array.getD_eq_getD_getElem?, Array.getElem?_eq_none, this]
                  rw [hu, hru _ _ _ _ hR hmq]
                  exact .c _
                · rw [hd, put_getD_same (by have := hs'.size; simp only at this; rw [this]; exact hdn)]
                  exact hv
              · rw [if_neg hji] at hLj
                rw [hputslot d' (fun d hd' hdn => hother j d' x' hj hji d hd' hdn), hold x' (hsl j d' x' hj hLj)]
                exact hf _ _ (h2 j d' x' hj hLj)
            · rw [getD_set _ _ _ (by omega)]
              by_cases hji : j = i
              · subst hji; rw [hlv] at hjq; cases hjq; simp [hmq]
              · rw [if_neg hji, h5 j q' hjq]
                have : q' ≠ q := fun he => hji (hinj j i q (he ▸ hjq) hlv)
                simp only [List.length_cons]; omega)
          unfold wpOpIn
          simp only [ho]
          rw [if_pos (by simp [Region.wanted, hg])]
          exact hs
  refine wpIn_region_any hm (key l.toArray.size _ A₀ a₀ _ (by simp) ?_ ⟨[], trivial, Nat.zero_le _, ⟨hA₀.size, hA₀.defers, hA₀.draw.keep, hA₀.hp.draw, fun s y hl => ?_, fun p hp => ?_⟩, fun i d x hi hL => ?_, fun i o ho hL => ?_, fun i _ => ?_, fun i q hq => ?_⟩)
  · have : cnt pre.length (fun i => !(Array.replicate l.toArray.size false).getD i true) ≤ pre.length := Nat.le_trans List.countP_le_length (by simp)
    omega
  · exact (hA₀.draw.env s y (lk_filter (fun k => !((dsts pre).any (Nat.beq k))) env s y hl).1)
  · exact hA₀.draw.facts p hp
  · simp only [Array.getD_eq_getD_getElem?, Array.getElem?_replicate] at hL; split at hL <;> simp at hL
  · simp only [Array.getD_eq_getD_getElem?, Array.getElem?_replicate] at hL; split at hL <;> simp at hL
  · simp only [Array.getD_eq_getD_getElem?, Array.getElem?_replicate]; split <;> simp
  · simp only [Array.getD_eq_getD_getElem?, Array.getElem?_replicate]; split <;> simp
end
end Go.Proofs.YtmccnmahegbmpaaGreat.J

/- Regions that draw their order with calls among their operations, in the form in which the walks use them. -/
namespace Go.Proofs.YtmccnmahegbmpaaGreat.J
open Go Go.RowKit
section
variable {P : Program} {E : Ent} {Q : Exit → St → Prop} {n : Nat} {env : List (Nat × AV)} {own : List Own} {R : Outs → List Own → AV → List Own → Prop} {M : Nat} {F : List (Value × AV)} {D : List Deferred} {ops : Array Oper}
def selR (sl : List Nat) : List Slot → List (Nat × AV)
  | [] => []
  | (s, .inl x) :: don => match sl.any (Nat.beq s) with | true => (s, x) :: selR sl don | false => selR sl don
  | (_, .inr _) :: don => selR sl don
def chkR (o : Oper) (sl : List Nat) : List Slot → Nat → Bool
  | [], _ => true
  | (s, .inl _) :: don, i => match sl.any (Nat.beq s) with | true => depsOk o [i - 1] && chkR o sl don (i - 1) | false => chkR o sl don (i - 1)
  | (_, .inr _) :: don, i => chkR o sl don (i - 1)
theorem selR_get {o : Oper} {sl : List Nat} {env : List (Nat × AV)} : ∀ {don : List Slot} {i : Nat}, i = don.length → chkR o sl don i = true → EnvOkR o don.reverse env (selR sl don ++ env)
  | [], i, _, _ => fun s x h => .inr (by simpa [selR] using h)
  | (s0, .inr q) :: don, i, hi, h => fun s x hl => by
    have hi' : i - 1 = don.length := by simp at hi; omega
    rcases selR_get (don := don) (i := i - 1) hi' h s x hl with ⟨j, h1, h2⟩ | h
    · exact .inl ⟨j, h1, by rw [List.reverse_cons, List.getElem?_append_left (List.getElem?_eq_some_iff.1 h2).1]; exact h2⟩
    · exact .inr h
  | (s0, .inl x0) :: don, i, hi, h => fun s x hl => by
    have hi' : i - 1 = don.length := by simp at hi; omega
    have hrec : chkR o sl don (i - 1) = true → lk (selR sl don ++ env) s = some x → (∃ j, depsOk o [j] = true ∧ ((s0, Sum.inl x0) :: don).reverse[j]? = some (s, Sum.inl x)) ∨ lk env s = some x := fun hc hl => by
      rcases selR_get (don := don) (i := i - 1) hi' hc s x hl with ⟨j, h1, h2⟩ | h
      · exact .inl ⟨j, h1, by rw [List.reverse_cons, List.getElem?_append_left (List.getElem?_eq_some_iff.1 h2).1]; exact h2⟩
      · exact .inr h
    unfold selR at hl
    unfold chkR at h
    split at hl
    · rename_i hb
      rw [hb] at h
      simp only [Bool.and_eq_true] at h
      rcases lk_cons hl with ⟨rfl, rfl⟩ | ⟨_, hl⟩
      · exact .inl ⟨i - 1, h.1, by rw [hi', List.reverse_cons, List.getElem?_append_right (by simp)]; simp⟩
      · exact hrec h.2 hl
    · rename_i hb
      rw [hb] at h
      exact hrec h hl
def selO (sl : List Nat) (os : Outs) : List Slot → List (Nat × AV)
  | [] => []
  | (s, z) :: don => match sl.any (Nat.beq s) with | true => (s, valO os z) :: selO sl os don | false => selO sl os don
def chkO (o : Oper) (sl : List Nat) : List Slot → Nat → Bool
  | [], _ => true
  | (s, _) :: don, i => match sl.any (Nat.beq s) with | true => depsOk o [i - 1] && chkO o sl don (i - 1) | false => chkO o sl don (i - 1)
theorem selO_get {o : Oper} {sl : List Nat} {env : List (Nat × AV)} {os : Outs} : ∀ {don : List Slot} {i : Nat}, i = don.length → chkO o sl don i = true → EnvOkO o don.reverse env (selO sl os don ++ env) os
  | [], i, _, _ => fun s x h => .inr (by simpa [selO] using h)
  | (s0, z0) :: don, i, hi, h => fun s x hl => by
    have hi' : i - 1 = don.length := by simp at hi; omega
    have hrec : chkO o sl don (i - 1) = true → lk (selO sl os don ++ env) s = some x → (∃ j z, depsOk o [j] = true ∧ ((s0, z0) :: don).reverse[j]? = some (s, z) ∧ x = valO os z) ∨ lk env s = some x := fun hc hl => by
      rcases selO_get (don := don) (i := i - 1) hi' hc s x hl with ⟨j, z, h1, h2, h3⟩ | h
      · exact .inl ⟨j, z, h1, by rw [List.reverse_cons, List.getElem?_append_left (List.getElem?_eq_some_iff.1 h2).1]; exact h2, h3⟩
      · exact .inr h
    unfold selO at hl
    unfold chkO at h
    split at hl
    · rename_i hb
      rw [hb] at h
      simp only [Bool.and_eq_true] at h
      rcases lk_cons hl with ⟨rfl, rfl⟩ | ⟨_, hl⟩
      · exact .inl ⟨i - 1, z0, h.1, by rw [hi', List.reverse_cons, List.getElem?_append_right (by simp)]; simp, rfl⟩
      · exact hrec h.2 hl
    · rename_i hb
      rw [hb] at h
      exact hrec h hl
def OutK (P : Program) (E : Ent) (Q : Exit → St → Prop) (ops : Array Oper) (n : Nat) (env : List (Nat × AV)) (own : List Own) (R : Outs → List Own → AV → List Own → Prop) (M : Nat) (F : List (Value × AV)) (D : List Deferred) (i j p : Nat) (os : List Oper) (don : List Slot) (K : List Slot → Prop) : Prop :=
  i = don.length → ∃ all lv, AnyR P E Q ops n env own R M F D i j p os don.reverse all lv ∧ K all.reverse
variable {i j p : Nat} {K : List Slot → Prop}
theorem OutK.nil {don : List Slot} (h : K don) : OutK P E Q ops n env own R M F D i M p [] don K := fun _ => ⟨don.reverse, _, .nil i p don.reverse, by rw [List.reverse_reverse]; exact h⟩
theorem OutK.quiet {o : Oper} {os : List Oper} {don : List Slot} {d : Nat} {x : AV} (sl : List Nat) (hd : o.dst = some d) (hn : Nat.blt d n = true) (hc : chkR o sl don i = true)
    (hs : ∀ os', vdO own R os' → os'.length ≤ M → Step P E ops ⟨n, selR sl don ++ env, curO own os', F, D⟩ o x) (h : OutK P E Q ops n env own R M F D (i + 1) j p os ((d, .inl x) :: don) K) : OutK P E Q ops n env own R M F D i j p (o :: os) don K := fun hi => by
  obtain ⟨all, lv, h1, h2⟩ := h (by simp [hi])
  rw [List.reverse_cons] at h1
  exact ⟨all, _, .quiet hd hn (selR_get hi hc) hs h1, h2⟩
theorem OutK.loud {o : Oper} {os : List Oper} {don : List Slot} {d : Nat} (sl : List Nat) (hd : o.dst = some d) (hn : Nat.blt d n = true) (hg : o.guard = none) (hc : chkO o sl don i = true) (hp : (Nat.beq j 0 || depsOk o [p]) = true)
    (hs : ∀ os', vdO own R os' → os'.length = j → LStepR P E Q ⟨n, selO sl os' don ++ env, curO own os', F, D⟩ (R os') o) (h : OutK P E Q ops n env own R M F D (i + 1) (j + 1) i os ((d, .inr (j, id)) :: don) K) : OutK P E Q ops n env own R M F D i j p (o :: os) don K := fun hi => by
  obtain ⟨all, lv, h1, h2⟩ := h (by simp [hi])
  rw [List.reverse_cons] at h1
  exact ⟨all, _, .loud (.inr ⟨hd, blt_lt hn⟩) hg (fun os' _ => selO_get (os := os') hi hc) hp hs h1, h2⟩
theorem OutK.store {o : Oper} {os : List Oper} {don : List Slot} (sl : List Nat) (hd : o.dst = none) (hu : ∀ os ow x o', R os ow x o' → os.length = j → x = .c undef) (hg : o.guard = none) (hc : chkO o sl don i = true) (hp : (Nat.beq j 0 || depsOk o [p]) = true)
    (hs : ∀ os', vdO own R os' → os'.length = j → LStepR P E Q ⟨n, selO sl os' don ++ env, curO own os', F, D⟩ (R os') o) (h : OutK P E Q ops n env own R M F D (i + 1) (j + 1) i os ((n + i, .inr (j, id)) :: don) K) : OutK P E Q ops n env own R M F D i j p (o :: os) don K := fun hi => by
  obtain ⟨all, lv, h1, h2⟩ := h (by simp [hi])
  rw [List.reverse_cons] at h1
  exact ⟨all, _, .loud (.inl ⟨hd, rfl, hu⟩) hg (fun os' _ => selO_get (os := os') hi hc) hp hs h1, h2⟩
theorem J.region_outK {id : Nat} {l : List Oper} (k M : Nat) (R : Outs → List Own → AV → List Own → Prop) (hm : P.follows .mixedOrders = true) (hnd : nodupB (dsts (l.take k)) = true) (hbk : backB 0 l = true) (ht : tailOk k l = true) (hk : Nat.ble k l.length = true)
    (h : OutK P E Q l.toArray n (dropEnv (dsts (l.take k)) env) own R M F D 0 0 0 (l.take k) [] fun steps => ∀ os', vdO own R os' → os'.length = M → JL P E l.toArray (l.drop k) ⟨n, stepsO os' steps ++ dropEnv (dsts (l.take k)) env, curO own os', F, D⟩ Q) :
    J P E (.region id l.toArray true) ⟨n, env, own, F, D⟩ Q := by
  obtain ⟨steps, lv, h1, h2⟩ := h rfl
  have hlen : (l.take k).length = k := by have := Nat.le_of_ble_eq_true hk; simp; omega
  obtain ⟨_, hl1, _, _, _, _, _, hst⟩ := h1.get rfl
  simp only [List.reverse_nil, List.length_nil, Nat.zero_add] at hst hl1
  have hslot : ∀ (a b : Nat) (x y : AV ⊕ (Nat × (AV → AV))) (s : Nat), steps[a]? = some (s, x) → steps[b]? = some (s, y) → a = b := by
    intro a b x y s ha hb
    have ha' : a < (l.take k).length := by have := (List.getElem?_eq_some_iff.1 ha).1; omega
    have hb' : b < (l.take k).length := by have := (List.getElem?_eq_some_iff.1 hb).1; omega
    have hA : ∀ a x, a < (l.take k).length → steps[a]? = some (s, x) → (∃ o, (l.take k)[a]? = some o ∧ o.dst = some s ∧ s < n) ∨ s = n + a := fun a x ha' ha => by
      rcases hst a _ (List.getElem?_eq_getElem ha') with ⟨_, d, x', _, h3, h4, h5, _⟩ | ⟨_, _, s', _, h3, h4, _⟩
      · rw [h3] at ha; cases ha
        exact .inl ⟨_, List.getElem?_eq_getElem ha', h4, h5⟩
      · rw [h3] at ha; cases ha
        rcases h4 with ⟨_, h4, _⟩ | ⟨h4, h5⟩
        · exact .inr h4
        · exact .inl ⟨_, List.getElem?_eq_getElem ha', h4, h5⟩
    rcases hA a x ha' ha with ⟨o, g1, g2, g3⟩ | g1 <;> rcases hA b y hb' hb with ⟨o', k1, k2, k3⟩ | k1
    · exact nodupB_ne hnd g1 k1 g2 k2
    · omega
    · omega
    · omega
  refine J.region_out hm (List.take_append_drop k l).symm hnd hbk (by rw [hlen]; exact ht) h1 fun os' hv hl a w ⟨A, hA⟩ => h2 os' hv hl a w ⟨A, hA.size, hA.defers, hA.keep, hA.hp, fun s x hl => hA.env s x ?_, hA.facts⟩
  rw [lk_append] at hl ⊢
  have hmem : ∀ (ll : List Slot) (s : Nat) (x : AV), (s, x) ∈ stepsO os' ll ↔ ∃ z, (s, z) ∈ ll ∧ valO os' z = x := fun ll s x => by
    simp only [stepsO, List.mem_map, Prod.mk.injEq, Prod.exists]
    constructor
    · rintro ⟨s', z, h, rfl, h'⟩; exact ⟨z, h, h'⟩
    · rintro ⟨z, h, h'⟩; exact ⟨s, z, h, rfl, h'⟩
  rcases hl with hl | ⟨hl1', hl2⟩
  · left
    obtain ⟨z, hz1, hz2⟩ := (hmem _ _ _).1 (lk_mem _ _ _ hl)
    have h3 : (s, z) ∈ steps := by simpa using hz1
    cases h4 : lk (stepsO os' steps) s with
    | none => exact absurd ((hmem _ _ _).2 ⟨z, h3, hz2⟩) (lk_none _ _ h4 x)
    | some y =>
      obtain ⟨z', h5, h6⟩ := (hmem _ _ _).1 (lk_mem _ _ _ h4)
      obtain ⟨a, ha⟩ := List.getElem?_of_mem h3
      obtain ⟨b, hb⟩ := List.getElem?_of_mem h5
      have := hslot a b z z' s ha hb
      subst this
      rw [ha] at hb; cases hb
      rw [← h6, hz2]
  · right
    refine ⟨?_, hl2⟩
    cases h4 : lk (stepsO os' steps) s with
    | none => rfl
    | some y =>
      obtain ⟨z', h5, h6⟩ := (hmem _ _ _).1 (lk_mem _ _ _ h4)
      exact absurd ((hmem _ _ _).2 ⟨z', by simpa using h5, h6⟩) (lk_none _ _ hl1' y)
variable {ty : TypeId} {pos : String} {af : Array Edge}
theorem LStepR.callG (ms : List Cd) {d : Nat} {f : FuncId} {fo : Operand} {fi ca : List Value} {l : List Operand} {tys : Array TypeId} {xs zs : List AV} {R : Res → List Own → Prop} {G : List (Value × AV)} (hf : goFn P f = true)
    (hfo : Ev E ⟨n, env, own, F, D⟩ fo (.c (.func (.func f) fi.toArray ca.toArray))) (hG : Lent G (selL ms own)) (hargs : ∀ E', EvL E' ⟨n, env, selP ms own ++ selK ms own, G ++ F, D⟩ l xs) (hzs : fi.map AV.c ++ xs ++ ca.map AV.c = zs) (hAC : AC P f (selP ms own) zs R)
    (hfr : selL ms own = [] ∨ ∀ r o, R r o → FreshR r ∧ ∀ x ∈ o, OwnFl (· = true) x)
    (hpan : ∀ v own', R (.pan v) own' → Q (.panic [{ v, recovered := false }]) ⟨n, env, mrg ms own' own, F, D⟩) :
    LStepR P E Q ⟨n, env, own, F, D⟩ (fun ow x o' => ∃ o2, R (.ret x) o2 ∧ o' = mrg ms o2 ow) ⟨some d, .call ⟨.value fo, l.toArray, tys⟩, ty, pos, af, none⟩ := fun A a w hA K hK => by
  refine wpR (by intro c h; cases h) ?_
  unfold Oper.wp
  rw [run_call hf (hfo.eq hA), Oper.upon_enter]
  subst hzs
  refine SatA.callG ms hG hfr hA hargs hAC fun r own' A' w' hR hfm hsat e hr => ?_
  cases r with
  | ret x =>
    obtain ⟨v, rfl, hv⟩ := hr
    exact hK v x _ w' A' ⟨own', hR, rfl⟩ hfm hsat hv
  | pan v =>
    obtain rfl := hr
    exact ⟨_, hpan v own' hR, A', hsat⟩
theorem LStepR.callF (ms : List Cd) {d : Nat} {f : FuncId} {l : List Operand} {tys : Array TypeId} {xs : List AV} {R : Res → List Own → Prop} {G : List (Value × AV)} (hf : goFn P f = true)
    (hG : Lent G (selL ms own)) (hargs : ∀ E', EvL E' ⟨n, env, selP ms own ++ selK ms own, G ++ F, D⟩ l xs) (hAC : AC P f (selP ms own) xs R)
    (hfr : selL ms own = [] ∨ ∀ r o, R r o → FreshR r ∧ ∀ x ∈ o, OwnFl (· = true) x)
    (hpan : ∀ v own', R (.pan v) own' → Q (.panic [{ v, recovered := false }]) ⟨n, env, mrg ms own' own, F, D⟩) :
    LStepR P E Q ⟨n, env, own, F, D⟩ (fun ow x o' => ∃ o2, R (.ret x) o2 ∧ o' = mrg ms o2 ow) ⟨some d, .call ⟨.value (.func f), l.toArray, tys⟩, ty, pos, af, none⟩ :=
  LStepR.callG (fi := []) (ca := []) ms hf .func hG hargs (by simp) hAC hfr hpan
end
end Go.Proofs.YtmccnmahegbmpaaGreat.J

/- Appends as operations of regions that draw their order; comparisons with nil; literals without items. -/
namespace Go.Proofs.YtmccnmahegbmpaaGreat.J
open Go Go.RowKit
section
variable {P : Program} {E : Ent} {Q : Exit → St → Prop} {n : Nat} {env : List (Nat × AV)} {own : List Own} {F : List (Value × AV)} {D : List Deferred} {ops : Array Oper} {rest : List Oper}
variable {A : Foot} {a : Act} {w w' : World} {t tx et ty s0 : TypeId} {pos : String} {af : Array Edge} {d : Nat} {s x y : Operand}
theorem JL.eqnil {fr clip : Bool} {e : ETy} {xs : List (List AV)} {yt : TypeId} (hU : P.underlying t = some (.slice et)) (hx : Ev E ⟨n, env, own, F, D⟩ x (.sl fr clip e xs)) (hy : Ev E ⟨n, env, own, F, D⟩ y (.c (.slice none 0 0))) (hd : Nat.blt d n = true)
    (h : ∀ b : Bool, (b = true → xs = []) → JL P E ops rest ⟨n, (d, .c (.bool b)) :: env, own, F, D⟩ Q) :
    JL P E ops (⟨some d, .binOp .eql t x y yt, ty, pos, af, none⟩ :: rest) ⟨n, env, own, F, D⟩ Q := fun a w ⟨A, hA⟩ => by
  refine wpListIn_plain rfl fun K hK => ?_
  refine wpR (by intro c h; cases h) ?_
  unfold Oper.wp
  have hr := hx A a w hA
  obtain ⟨ad, cap, hv, _, _, hc⟩ := hr.of_sl
  have hg : (eqGuard .eql t x y (.slice ad xs.length cap) (.slice none 0 0)).run P w = .ok () w := by simp [eqGuard]
  have hrun : (execOp a.eval ⟨some d, .binOp .eql t x y yt, ty, pos, af, none⟩).run P w = .ok (.value (.bool ad.isNone)) w := by
    simp only [execOp, hv, hy.eq hA, Sem.run_bind, hg, Result.andThen_ok, Lib.run_eql_slice_nil w t et ad xs.length cap 0 0 hU, Sem.run_pure]
  rw [hrun, Oper.upon_value]
  refine hK _ _ (h ad.isNone (fun hb => ?_) _ _ ⟨A, hA.put (blt_lt hd) (.c _)⟩)
  rcases hc with hc | ⟨b, off, cs, t, fz, h1, _⟩
  · exact hc
  · rw [h1] at hb; cases hb
theorem JL.buildSlice0 {e : ETy} {idx : Array (Nat × Operand)} (hU : P.underlying t = some (.slice et)) (hE : elemB P et e = true) (hi : idx = #[]) (hd : Nat.blt d n = true)
    (h : ∀ v, JL P E ops rest ⟨n, (d, .c v) :: env, .arr v e [] :: own, F, D⟩ Q) :
    JL P E ops (⟨some d, .buildSlice t 0 idx, ty, pos, af, none⟩ :: rest) ⟨n, env, own, F, D⟩ Q := fun a w ⟨A, hA⟩ => by
  refine wpListIn_plain rfl fun K hK => ?_
  refine wpR (by intro c h; cases h) ?_
  unfold Oper.wp
  subst hi
  obtain ⟨ti, tz, hi1, hsz, hby, hz2, hzs, hz1⟩ := elemB_get hE
  have hrun : (execOp a.eval ⟨some d, .buildSlice t 0 #[], ty, pos, af, none⟩).run P w = .ok (.value (.slice (some ⟨w.heap.size, 0, none⟩) 0 0)) (World.pushed w (.cells #[] et)) := by
    simp [execOp, Instr.buildSlice, run_underlying _ hU, sizeOf, run_typeInfo hi1, Instr.fill, newRow, World.pushed]
    congr 2
    apply Array.ext'; simp
  rw [hrun, Oper.upon_value]
  refine hK _ _ (h _ _ _ ⟨A, SatA.put ?_ (blt_lt hd) (.c _)⟩)
  refine hA.step (.push _ _ _) (fun _ _ h => h) ⟨hA.hp.mono, hA.hp.sup, hA.hp.sub, fun fr b hb => by have := hA.hp.lt fr b hb; rw [size_pushed]; omega, fun b hb => ?_, ?_, fun o ho => ?_⟩
  · have hb' : b ∈ fps own := by simpa [fps_cons, Own.fp, arrFp] using hb
    obtain ⟨h1, h2, h3⟩ := hA.hp.fp b hb'
    exact ⟨by rw [size_pushed]; omega, h2, h3⟩
  · have := hA.hp.nodup
    simpa [fps_cons, Own.fp, arrFp] using this
  · rcases List.mem_cons.1 ho with rfl | ho
    · exact .inl ⟨_, rfl, rfl⟩
    · exact (hA.hp.own o ho).move (fun _ _ h _ => h) (fun fr b hb hlt => (Keep.push [] w _).block b hlt (by simp)) fun b hb => (Keep.push [] w _).block b (hA.hp.fp b (fps_mem ho hb)).1 (by simp)
theorem Reown.nilArr (e : ETy) (own : List Own) : Reown own (.arr (.slice none 0 0) e [] :: own) := ⟨fun x => by simp [fps_cons, Own.fp, arrFp], fun w A g => by
  simp only [List.forall_mem_cons]
  exact ⟨.inl ⟨_, rfl, rfl⟩, g⟩⟩
theorem Reown.nilArrE (e : ETy) (own : List Own) : Reown own (own ++ [.arr (.slice none 0 0) e []]) := (Reown.nilArr e own).trans (.perm (List.perm_append_singleton _ _).symm)
theorem srcA_sl {e : ETy} {ys : List (List AV)} {fr clip : Bool} {e' : TypeId} {st : St} (hU : P.underlying tx = some (.slice e')) (h : Ev E st x (.sl fr clip e ys)) : ∀ A a w, SatA E A st a w → SrcA P w A tx (a.eval x) e ys :=
  fun A a w hs => .sl hU (h A a w hs)
theorem run_bytes {b off : Nat} {cs : Array Value} {tt : TypeId} {fz : Nat × Nat} (hb : w.heap[b]? = some (.cells cs tt fz)) {l : List UInt8} (hc : Cells w A cs off (l.map fun b => .c (.int .u8 (b.toNat : Int)))) (cap : Nat) :
    (Conv.bytesToString (.slice (some ⟨b, off, none⟩) l.length cap)).run P w = .ok (str l) w := by
  have hu : ∀ k, k < l.length → cs[off + k]? = some (.int .u8 ((l.getD k 0).toNat : Int)) := fun k hk => by
    obtain ⟨u, h1, _, h2⟩ := hc k (.c (.int .u8 ((l.getD k 0).toNat : Int))) (by simp [hk])
    rw [h1, h2.eq]
  have hload := run_loadCells (P := P) hb l.length off 0 #[] (fun k => .int .u8 ((l.getD k 0).toNat : Int)) (fun k hk => by simpa using hu k hk)
  have harr : (Array.range l.length).map (fun k => Value.int .u8 ((l.getD k 0).toNat : Int)) = (l.map fun b => Value.int .u8 (b.toNat : Int)).toArray := by
    apply Array.ext'
    simp only [Array.toList_map, Array.toList_range]
    apply List.ext_getElem?
    intro k
    rw [List.getElem?_map, List.getElem?_map]
    by_cases hk : k < l.length
    · rw [List.getElem?_range hk, List.getElem?_eq_getElem hk]; simp [hk]
    · rw [List.getElem?_eq_none (by simpa using hk), List.getElem?_eq_none (by simpa using hk)]; rfl
  simp only [Array.empty_append] at hload
  rw [harr] at hload
  have hloop : ∀ (f : Value → ByteArray → Sem (ForInStep ByteArray)), (∀ (n : Int) r, f (.int .u8 n) r = pure (ForInStep.yield (r.push (UInt8.ofNat n.toNat)))) → ∀ (l : List UInt8) (r : ByteArray),
      (forIn (m := Sem) (l.map fun b => Value.int .u8 (b.toNat : Int)).toArray r f).run P w = .ok ⟨r.data ++ l.toArray⟩ w := by
    intro f hf l
    induction l with
    | nil => intro r; simp
    | cons b l ih =>
      intro r
      have := ih (r.push b)
      simp only [List.map_cons]
      simp only [List.forIn_toArray] at this ⊢
      simp only [List.forIn_cons, hf, Sem.run_bind, Sem.run_pure, Result.andThen_ok]
      have hb : UInt8.ofNat ((b.toNat : Int)).toNat = b := by simp
      rw [hb, this]
      simp [ByteArray.push]
  simp only [Conv.bytesToString, Sem.run_bind, loadCells, hload, Result.andThen_ok]
  rw [hloop _ (fun n r => rfl) l ByteArray.empty]
  simp [str, Result.andThen_ok]
end
end Go.Proofs.YtmccnmahegbmpaaGreat.J

/- Contracts that return, contracts that may panic, in the form in which the walks use them; stores over a whole variable. -/
namespace Go.Proofs.YtmccnmahegbmpaaGreat.J
open Go Go.RowKit
def RetR (Rx : AV → List Own → Prop) : Res → List Own → Prop := fun r o => ∃ x, r = .ret x ∧ Rx x o
def PanR (ok : Prop) (e : Value) (Rx : AV → List Own → Prop) : Res → List Own → Prop := fun r o => (ok ∧ ∃ x, r = .ret x ∧ Rx x o) ∨ (¬ ok ∧ r = .pan e ∧ o = [])
theorem PanR.ret {ok : Prop} {e : Value} {Rx : AV → List Own → Prop} {x : AV} {o : List Own} (hk : ok) (h : Rx x o) : PanR ok e Rx (.ret x) o := .inl ⟨hk, x, rfl, h⟩
theorem PanR.pan {ok : Prop} {e : Value} {Rx : AV → List Own → Prop} (hk : ¬ ok) : PanR ok e Rx (.pan e) [] := .inr ⟨hk, rfl, rfl⟩
def FreshX (Rx : AV → List Own → Prop) : Prop := ∀ x o, Rx x o → Fresh x ∧ ∀ y ∈ o, OwnFl (· = true) y
section
variable {P : Program} {E : Ent} {Q : Exit → St → Prop} {n : Nat} {env : List (Nat × AV)} {own : List Own} {F : List (Value × AV)} {D : List Deferred} {ops : Array Oper} {rest : List Oper}
variable {A : Foot} {a : Act} {w w' : World} {t ty : TypeId} {pos : String} {af : Array Edge} {d : Nat} {x y : Operand} {g : Bool} {m B : Nat}
theorem JL.callR (ms : List Cd) {f : FuncId} {fo : Operand} {fi ca : List Value} {l : List Operand} {tys : Array TypeId} {xs zs : List AV} {Rx : AV → List Own → Prop} {G : List (Value × AV)} (hf : goFn P f = true) (hd : Nat.blt d n = true)
    (hfo : Ev E ⟨n, env, own, F, D⟩ fo (.c (.func (.func f) fi.toArray ca.toArray))) (hG : Lent G (selL ms own)) (hargs : ∀ E', EvL E' ⟨n, env, selP ms own ++ selK ms own, G ++ F, D⟩ l xs) (hzs : fi.map AV.c ++ xs ++ ca.map AV.c = zs) (hAC : AC P f (selP ms own) zs (RetR Rx))
    (hfr : selL ms own = [] ∨ FreshX Rx)
    (hret : ∀ x own', Rx x own' → JL P E ops rest ⟨n, (d, x) :: env, mrg ms own' own, F, D⟩ Q) :
    JL P E ops (⟨some d, .call ⟨.value fo, l.toArray, tys⟩, ty, pos, af, none⟩ :: rest) ⟨n, env, own, F, D⟩ Q :=
  JL.callG ms hf hd hfo hG hargs hzs hAC (hfr.imp id fun h r o ⟨x, h1, h2⟩ => by subst h1; exact h x o h2) (fun x own' ⟨x', h1, h2⟩ => by cases h1; exact hret x own' h2) (fun v own' ⟨x', h1, _⟩ => by cases h1)
theorem JL.callRF (ms : List Cd) {f : FuncId} {l : List Operand} {tys : Array TypeId} {xs : List AV} {Rx : AV → List Own → Prop} {G : List (Value × AV)} (hf : goFn P f = true) (hd : Nat.blt d n = true)
    (hG : Lent G (selL ms own)) (hargs : ∀ E', EvL E' ⟨n, env, selP ms own ++ selK ms own, G ++ F, D⟩ l xs) (hAC : AC P f (selP ms own) xs (RetR Rx))
    (hfr : selL ms own = [] ∨ FreshX Rx)
    (hret : ∀ x own', Rx x own' → JL P E ops rest ⟨n, (d, x) :: env, mrg ms own' own, F, D⟩ Q) :
    JL P E ops (⟨some d, .call ⟨.value (.func f), l.toArray, tys⟩, ty, pos, af, none⟩ :: rest) ⟨n, env, own, F, D⟩ Q :=
  JL.callR (fi := []) (ca := []) ms hf hd .func hG hargs (by simp) hAC hfr hret
theorem JL.callPF (ms : List Cd) {f : FuncId} {l : List Operand} {tys : Array TypeId} {xs : List AV} {ok : Prop} {e : Value} {Rx : AV → List Own → Prop} {G : List (Value × AV)} (hf : goFn P f = true) (hd : Nat.blt d n = true)
    (hG : Lent G (selL ms own)) (hargs : ∀ E', EvL E' ⟨n, env, selP ms own ++ selK ms own, G ++ F, D⟩ l xs) (hAC : AC P f (selP ms own) xs (PanR ok e Rx))
    (hfr : selL ms own = [] ∨ FreshX Rx)
    (hret : ok → ∀ x own', Rx x own' → JL P E ops rest ⟨n, (d, x) :: env, mrg ms own' own, F, D⟩ Q)
    (hpan : ¬ ok → Q (.panic [{ v := e, recovered := false }]) ⟨n, env, mrg ms [] own, F, D⟩) :
    JL P E ops (⟨some d, .call ⟨.value (.func f), l.toArray, tys⟩, ty, pos, af, none⟩ :: rest) ⟨n, env, own, F, D⟩ Q :=
  JL.callF ms hf hd hG hargs hAC (hfr.imp id fun h r o hR => by
      rcases hR with ⟨_, x, h1, h2⟩ | ⟨_, h1, h2⟩
      · subst h1; exact h x o h2
      · subst h1 h2; exact ⟨trivial, fun y hy => by cases hy⟩)
    (fun x own' hR => by
      rcases hR with ⟨hk, x', h1, h2⟩ | ⟨_, h1, _⟩
      · cases h1; exact hret hk x own' h2
      · cases h1)
    (fun v own' hR => by
      rcases hR with ⟨_, x', h1, _⟩ | ⟨hk, h1, h2⟩
      · cases h1
      · cases h1; subst h2; exact hpan hk)
theorem JL.conv {st st' : St} {l : List Oper} (h : st = st') (k : JL P E ops l st' Q) : JL P E ops l st Q := h ▸ k
theorem J.conv {st st' : St} {c : Code} (h : st = st') (k : J P E c st' Q) : J P E c st Q := h ▸ k
theorem splice_zero {z : AV} {ys : List AV} {x : AV} : splice (x :: ys) 0 [z] = z :: ys := by simp [splice]
theorem splice_succ {ys zs : List AV} {x : AV} {k : Nat} : splice (x :: ys) (k + 1) zs = x :: splice ys k zs := by simp [splice, Nat.succ_add]
theorem LStepR.callRF (ms : List Cd) {f : FuncId} {l : List Operand} {tys : Array TypeId} {xs : List AV} {Rx : AV → List Own → Prop} {G : List (Value × AV)} (hf : goFn P f = true)
    (hG : Lent G (selL ms own)) (hargs : ∀ E', EvL E' ⟨n, env, selP ms own ++ selK ms own, G ++ F, D⟩ l xs) (hAC : AC P f (selP ms own) xs (RetR Rx))
    (hfr : selL ms own = [] ∨ FreshX Rx) :
    LStepR P E Q ⟨n, env, own, F, D⟩ (fun ow x o' => ∃ o2, Rx x o2 ∧ o' = mrg ms o2 ow) ⟨some d, .call ⟨.value (.func f), l.toArray, tys⟩, ty, pos, af, none⟩ := fun A a w hA K hK =>
  LStepR.callF (d := d) ms hf hG hargs hAC (hfr.imp id fun h r o ⟨x, h1, h2⟩ => by subst h1; exact h x o h2) (fun v own' ⟨x', h1, _⟩ => by cases h1) A a w hA K
    fun v x own' w' A' ⟨o2, ⟨x', h1, h2⟩, h3⟩ => hK v x own' w' A' ⟨o2, by cases h1; exact h2, h3⟩
theorem JL.store_boxF (i : Nat) {b : Nat} {ys : List AV} {z : AV} (hT : tySz P t = some (g, m, B)) (hx : Ev E ⟨n, env, own, F, D⟩ x (.c (.pointer (some ⟨b, 0, none⟩))))
    (ho : own[i]? = some (.box b ys)) (hy : Ev E ⟨n, env, own, F, D⟩ y z) (hz : z.plain = true) (hm : z.cellsOf.length = m) (hl : ys.length = m)
    {own' : List Own} (hown : own.set i (.box b z.cellsOf) = own')
    (h : JL P E ops rest ⟨n, env, own', F, D⟩ Q) :
    JL P E ops (⟨none, .store t x y, ty, pos, af, none⟩ :: rest) ⟨n, env, own, F, D⟩ Q :=
  JL.store_box i hT hx ho hy hz hm (by rw [Nat.zero_add, hl]; exact Nat.ble_eq_true_of_le (Nat.le_refl m)) (by
    unfold splice
    rw [Nat.zero_add, hm, ← hl]
    simp) hown h
theorem LStep.toR {st : St} {own' : List Own} {o : Oper} {R : List Own → AV → List Own → Prop} (hd : o.dst = none) (h : LStep P E st own' o) (hR : R st.own (.c undef) own') : LStepR P E Q st R o := fun A a w hA K hK =>
  h A a w hA K (lift E Q) fun w' A' hf hs => by
    have := hK undef (.c undef) own' w' A' hR hf hs (.c _)
    rw [hd] at this
    exact this
theorem ret_b {a b : Bool} (h : a = true ↔ b = true) : Res.ret (.c (.bool a)) = Res.ret (.c (.bool b)) := by rw [Bool.eq_iff_iff.2 h]
theorem DC.mono {P : Program} {f : FuncId} {own : List Own} {xs : List AV} {u : FrameMode} {R R' : Res → FrameMode → List Own → Prop} (h : DC P f own xs u R) (hR : ∀ r u' o, R r u' o → R' r u' o) : DC P f own xs u R' :=
  fun w A0 vs h1 h2 => (h w A0 vs h1 h2).mono fun _ _ _ ⟨r, o, A, hr, rest⟩ => ⟨r, o, A, hR _ _ _ hr, rest⟩
theorem thenD.nn {K : St → FrameMode → Prop} {QD : Exit → St → FrameMode → Prop} {s : St} {u : FrameMode} (h : K s u) : thenD K QD .normal s u := h
theorem Le.intE {F : List (Value × AV)} {k : IntKind} {a b : Int} (h : a = b) : Le F (.c (.int k a)) (.c (.int k b)) := h ▸ .refl _
theorem QW.len_slE {st : St} {dd : Option Tmp} {gd : Option (Nat × Bool)} {fr clip : Bool} {e : ETy} {xs : List (List AV)} {et : TypeId} {k : Nat} {P : Program} {E : Ent} {x : Operand} {t ty : TypeId} {pos : String} {af : Array Edge} (hU : P.underlying t = some (.slice et)) (h : Ev E st x (.sl fr clip e xs)) (hk : xs.length = k) :
    QW P E st ⟨dd, .call ⟨.builtin .len, #[x], #[t]⟩, ty, pos, af, gd⟩ (.c (.int .i64 (k : Int))) := (QW.len_sl hU h).conv (by rw [hk])
theorem take_full {ys : List AV} {k : Nat} (h : ys.length = k) : (ys.drop 0).take k = ys := by subst h; simp
theorem take_at {ys zs : List AV} {off k : Nat} (hl : zs.length = k) (h : ys.drop off = zs) : (ys.drop off).take k = zs := by rw [h, ← hl]; simp
theorem take_at0 {ys zs : List AV} {k : Nat} (hl : zs.length = k) (h : ys = zs) : ys.take k = zs := by subst h hl; simp
end
end Go.Proofs.YtmccnmahegbmpaaGreat.J

/- Values as plain data: their cells, what the page says of them. -/
namespace Go.Proofs.YtmccnmahegbmpaaGreat.J
open Go Go.RowKit
abbrev Str := List UInt8
inductive V where
  | mk (kind : Int) (bits : Nat) (text : Str) (keys : List Str) (items : List V)
def V.kind : V → Int | .mk k _ _ _ _ => k
def V.bits : V → Nat | .mk _ b _ _ _ => b
def V.text : V → Str | .mk _ _ t _ _ => t
def V.keys : V → List Str | .mk _ _ _ l _ => l
def V.items : V → List V | .mk _ _ _ _ l => l
def V.nil : V := .mk 0 0 [] [] []
def eStr : ETy := ⟨1, 16⟩
def eV : ETy := ⟨5, 80⟩
def keysAV (ks : List Str) : List (List AV) := ks.map fun s => [.c (str s)]
mutual
/-- The cells of a value. -/
def V.cs (fr : Bool) : V → List AV
  | .mk k b t ks is => [.c (.int .i64 k), .c (.int .u64 (b : Int)), .c (str t), .sl fr false eStr (keysAV ks), .sl fr false eV (V.css fr is)]
def V.css (fr : Bool) : List V → List (List AV)
  | [] => []
  | v :: r => v.cs fr :: V.css fr r
end
theorem V.css_eq (fr : Bool) : ∀ is, V.css fr is = is.map (V.cs fr)
  | [] => rfl
  | v :: r => by simp [V.css, V.css_eq fr r]
theorem V.css_length (fr : Bool) (is : List V) : (V.css fr is).length = is.length := by simp [V.css_eq]
theorem V.css_get (fr : Bool) {is : List V} {i : Nat} {v : V} (h : is[i]? = some v) : (V.css fr is)[i]? = some (v.cs fr) := by simp [V.css_eq, h]
theorem V.css_getE (fr : Bool) {is : List V} {i : Nat} (h : i < is.length) : (V.css fr is)[i]? = some ((is[i]).cs fr) := V.css_get fr (List.getElem?_eq_getElem h)
theorem V.css_append (fr : Bool) (a b : List V) : V.css fr (a ++ b) = V.css fr a ++ V.css fr b := by simp [V.css_eq]
theorem V.cs_length (fr : Bool) (v : V) : (v.cs fr).length = 5 := by cases v; rfl
theorem V.css_sz (fr : Bool) (is : List V) : ∀ x ∈ V.css fr is, x.length = eV.sz := by
  intro x hx
  rw [V.css_eq] at hx
  obtain ⟨v, _, rfl⟩ := List.mem_map.1 hx
  exact V.cs_length fr v
theorem keysAV_length (ks : List Str) : (keysAV ks).length = ks.length := by simp [keysAV]
theorem keysAV_get {ks : List Str} {i : Nat} {s : Str} (h : ks[i]? = some s) : (keysAV ks)[i]? = some [.c (str s)] := by simp [keysAV, h]
theorem keysAV_getE {ks : List Str} {i : Nat} (h : i < ks.length) : (keysAV ks)[i]? = some [.c (str ks[i])] := keysAV_get (List.getElem?_eq_getElem h)
theorem keysAV_sz (ks : List Str) : ∀ x ∈ keysAV ks, x.length = eStr.sz := by
  intro x hx
  obtain ⟨v, _, rfl⟩ := List.mem_map.1 hx
  rfl
theorem keysAV_flat (ks : List Str) : (keysAV ks).flatten = (ks.map str).map AV.c := by rw [keysAV, flatten_one, List.map_map]; rfl
def Vc (fr : Bool) (v : V) (ys : List AV) : Prop := ys = v.cs fr
theorem Vc.self {fr : Bool} {v : V} : Vc fr v (v.cs fr) := rfl
theorem Vc.mk {fr : Bool} {k : Int} {b : Nat} {t : Str} {ks : List Str} {is : List V} : Vc fr (.mk k b t ks is) [.c (.int .i64 k), .c (.int .u64 (b : Int)), .c (str t), .sl fr false eStr (keysAV ks), .sl fr false eV (V.css fr is)] := rfl
theorem keys_fl {p : Bool → Prop} (ks : List Str) : FlL p (keysAV ks).flatten := by rw [keysAV_flat]; exact FlL.c _
mutual
theorem V.cs_fl (fr : Bool) : ∀ v : V, FlL (· = fr) (v.cs fr)
  | .mk k b t ks is => .cons (.c _) (.cons (.c _) (.cons (.c _) (.cons (.sl rfl (keys_fl ks)) (.cons (.sl rfl (V.css_fl fr is)) .nil))))
theorem V.css_fl (fr : Bool) : ∀ l : List V, FlL (· = fr) (V.css fr l).flatten
  | [] => .nil
  | v :: r => by
    simp only [V.css, List.flatten_cons]
    exact FlL.append (V.cs_fl fr v) (V.css_fl fr r)
end
theorem LeL.append {F : List (Value × AV)} {a b c d : List AV} (h : LeL F a b) (k : LeL F c d) : LeL F (a ++ c) (b ++ d) := by
  induction h with
  | nil => exact k
  | cons h _ ih => exact .cons h ih
theorem Le.slL {F : List (Value × AV)} {fr fr' clip : Bool} {e : ETy} {xs ys : List (List AV)} (hf : fr' = true → fr = true) (hl : xs.length = ys.length) (hs : ∀ y ∈ ys, y.length = e.sz) (h : LeL F xs.flatten ys.flatten) : Le F (.sl fr clip e xs) (.sl fr' false e ys) :=
  .sl hf (fun h => by cases h) hl hs h.get.2 h.get.1
theorem keys_le {F : List (Value × AV)} (fr fr' : Bool) (hf : fr' = true → fr = true) (ks : List Str) : Le F (.sl fr false eStr (keysAV ks)) (.sl fr' false eStr (keysAV ks)) := .slL hf rfl (keysAV_sz ks) (.refl _)
mutual
theorem V.cs_le {F : List (Value × AV)} (fr fr' : Bool) (hf : fr' = true → fr = true) : ∀ v : V, LeL F (v.cs fr) (v.cs fr')
  | .mk k b t ks is => .cons (.refl _) (.cons (.refl _) (.cons (.refl _) (.cons (keys_le fr fr' hf ks) (.cons (.slL hf (by rw [V.css_length, V.css_length]) (V.css_sz fr' is) (V.css_le fr fr' hf is)) .nil))))
theorem V.css_le {F : List (Value × AV)} (fr fr' : Bool) (hf : fr' = true → fr = true) : ∀ l : List V, LeL F (V.css fr l).flatten (V.css fr' l).flatten
  | [] => .nil
  | v :: r => by
    simp only [V.css, List.flatten_cons]
    exact LeL.append (V.cs_le fr fr' hf v) (V.css_le fr fr' hf r)
end
theorem items_le {F : List (Value × AV)} (fr fr' : Bool) (hf : fr' = true → fr = true) (is : List V) : Le F (.sl fr false eV (V.css fr is)) (.sl fr' false eV (V.css fr' is)) :=
  .slL hf (by rw [V.css_length, V.css_length]) (V.css_sz fr' is) (V.css_le fr fr' hf is)
mutual
def V.sz : V → Nat
  | .mk _ _ _ _ is => 1 + V.szs is
def V.szs : List V → Nat
  | [] => 0
  | x :: r => x.sz + V.szs r
end
theorem V.sz_pos (v : V) : 1 ≤ v.sz := by cases v; unfold V.sz; omega
theorem V.szs_mem : ∀ {is : List V} {x : V}, x ∈ is → x.sz ≤ V.szs is
  | y :: r, x, h => by
    unfold V.szs
    rcases List.mem_cons.1 h with rfl | h
    · omega
    · have := V.szs_mem h; omega
theorem V.sz_get {k : Int} {b : Nat} {t : Str} {ks : List Str} {is : List V} {j n : Nat} (h : (V.mk k b t ks is).sz ≤ n + 1) (hj : j < is.length) : is[j].sz ≤ n := by
  have := V.szs_mem (List.getElem_mem hj)
  unfold V.sz at h; omega
inductive V.wf : V → Prop
  | mk {k : Int} {b : Nat} {t : Str} {ks : List Str} {is : List V} (h1 : -9223372036854775808 ≤ k ∧ k ≤ 9223372036854775807) (h2 : b < 2 ^ 64) (h3 : t.length ≤ reach) (h4 : ks.length * 16 ≤ reach) (h5 : is.length * 80 ≤ reach)
      (h6 : ∀ s ∈ ks, s.length ≤ reach) (h7 : ∀ x ∈ is, V.wf x) : V.wf (.mk k b t ks is)
theorem V.wf.inv {k : Int} {b : Nat} {t : Str} {ks : List Str} {is : List V} (h : V.wf (.mk k b t ks is)) : (-9223372036854775808 ≤ k ∧ k ≤ 9223372036854775807) ∧ b < 2 ^ 64 ∧ t.length ≤ reach ∧ ks.length * 16 ≤ reach ∧ is.length * 80 ≤ reach ∧ (∀ s ∈ ks, s.length ≤ reach) ∧ ∀ x ∈ is, V.wf x := by
  cases h with | mk h1 h2 h3 h4 h5 h6 h7 => exact ⟨h1, h2, h3, h4, h5, h6, h7⟩
theorem V.wf_nil : V.nil.wf := .mk (by decide) (by decide) (by decide) (by decide) (by decide) (fun _ h => by cases h) (fun _ h => by cases h)
/-! ### the page -/
def keyOk (s : Str) : Bool := decide (1 ≤ s.length) && decide (s.length ≤ 16)
def keyAt (l : List Str) (j : Nat) : Bool := keyOk (l.getD j []) && (j == 0 || Op.bytesLess (l.getD (j - 1) []) (l.getD j []))
def keysOk (l : List Str) : Bool := (List.range l.length).all (keyAt l)
theorem all_range_succ {p : Nat → Bool} {k : Nat} (h : (List.range k).all p = true) (hk : p k = true) : (List.range (k + 1)).all p = true := by
  simp [List.range_succ] at h ⊢
  exact ⟨h, hk⟩
theorem all_range_false {p : Nat → Bool} {k n : Nat} (hk : k < n) (h : p k = false) : (List.range n).all p = false := by
  rw [List.all_eq_false]
  exact ⟨k, by simpa using hk, by simp [h]⟩
def partOk : V → Bool
  | .mk k b t ks is =>
    if k = 0 then b == 0 && t == [] && ks.length == 0 && is.length == 0
    else if k = 1 then decide (b ≤ 1) && t == [] && ks.length == 0 && is.length == 0
    else if k = 2 then canonN b == b && t == [] && ks.length == 0 && is.length == 0
    else if k = 3 then b == 0 && decide (t.length ≤ 128) && ks.length == 0 && is.length == 0
    else if k = 4 then b == 0 && t == [] && ks.length == 0 && decide (is.length ≤ 32)
    else if k = 5 then b == 0 && t == [] && decide (is.length ≤ 32) && ks.length == is.length && keysOk ks
    else false
mutual
/-- The first error of a walk, and the parts so far. -/
def V.chk : V → Int → Int → Int × Int
  | .mk k b t ks is, lev, n => if 8 < lev then (10, n) else if 512 ≤ n then (3, n) else if partOk (.mk k b t ks is) = false then (9, n) else V.chks is lev (n + 1)
def V.chks : List V → Int → Int → Int × Int
  | [], _, n => (0, n)
  | x :: r, lev, n => if (x.chk (lev + 1) n).1 ≠ 0 then x.chk (lev + 1) n else V.chks r lev (x.chk (lev + 1) n).2
end
mutual
def V.depth : V → Int
  | .mk _ _ _ _ is => 1 + V.depths is
def V.depths : List V → Int
  | [] => 0
  | x :: r => max x.depth (V.depths r)
end
def V.err (v : V) : Int := (v.chk 1 0).1
def V.cnt (v : V) : Int := (v.chk 1 0).2
mutual
def V.same : V → V → Bool
  | .mk k b t ks is, .mk k' b' t' ks' is' => k == k' && b == b' && t == t' && ks == ks' && V.sames is is'
def V.sames : List V → List V → Bool
  | [], [] => true
  | x :: r, y :: s => x.same y && V.sames r s
  | _, _ => false
end
mutual
theorem V.same_refl : ∀ e : V, e.same e = true
  | .mk k b t ks is => by simp [V.same, V.sames_refl is]
theorem V.sames_refl : ∀ l : List V, V.sames l l = true
  | [] => rfl
  | x :: r => by simp [V.sames, V.same_refl x, V.sames_refl r]
end
mutual
theorem V.same_eq : ∀ {a b : V}, a.same b = true → a = b
  | .mk k b t ks is, .mk k' b' t' ks' is', h => by
    simp only [V.same, Bool.and_eq_true, beq_iff_eq] at h
    obtain ⟨⟨⟨⟨rfl, rfl⟩, rfl⟩, rfl⟩, h⟩ := h
    rw [V.sames_eq h]
theorem V.sames_eq : ∀ {a b : List V}, V.sames a b = true → a = b
  | [], [], _ => rfl
  | x :: r, y :: s, h => by
    simp only [V.sames, Bool.and_eq_true] at h
    rw [V.same_eq h.1, V.sames_eq h.2]
  | [], _ :: _, h => by simp [V.sames] at h
  | _ :: _, [], h => by simp [V.sames] at h
end
instance : DecidableEq V := fun a b => if h : a.same b = true then isTrue (V.same_eq h) else isFalse fun e => h (e ▸ V.same_refl a)
mutual
theorem V.chk_bounds : ∀ (v : V) (lev n : Int), n ≤ (v.chk lev n).2 ∧ (n ≤ 512 → (v.chk lev n).2 ≤ 512)
  | .mk k b t ks is, lev, n => by
    unfold V.chk
    split
    · exact ⟨Int.le_refl _, id⟩
    · split
      · exact ⟨Int.le_refl _, id⟩
      · split
        · exact ⟨Int.le_refl _, id⟩
        · have := V.chks_bounds is lev (n + 1)
          exact ⟨by omega, fun h => this.2 (by omega)⟩
theorem V.chks_bounds : ∀ (l : List V) (lev n : Int), n ≤ (V.chks l lev n).2 ∧ (n ≤ 512 → (V.chks l lev n).2 ≤ 512)
  | [], lev, n => ⟨Int.le_refl _, id⟩
  | x :: r, lev, n => by
    unfold V.chks
    have h1 := V.chk_bounds x (lev + 1) n
    split
    · exact h1
    · have h3 := V.chks_bounds r lev (x.chk (lev + 1) n).2
      exact ⟨by omega, fun h => h3.2 (h1.2 h)⟩
end
theorem V.depths_nonneg : ∀ l : List V, 0 ≤ V.depths l
  | [] => Int.le_refl _
  | x :: r => by unfold V.depths; have := V.depths_nonneg r; omega
mutual
theorem V.chk_depth : ∀ (v : V) (lev n : Int), (v.chk lev n).1 = 0 → lev + v.depth ≤ 9 ∧ 1 ≤ v.depth
  | .mk k b t ks is, lev, n, h => by
    unfold V.chk at h
    split at h
    · simp at h
    · split at h
      · simp at h
      · split at h
        · simp at h
        · have := V.chks_depth is lev (n + 1) h
          have h0 := V.depths_nonneg is
          unfold V.depth
          omega
theorem V.chks_depth : ∀ (l : List V) (lev n : Int), (V.chks l lev n).1 = 0 → V.depths l = 0 ∨ lev + V.depths l ≤ 8
  | [], lev, n, h => .inl rfl
  | x :: r, lev, n, h => by
    unfold V.chks at h
    split at h
    · rename_i h'; exact absurd h h'
    · rename_i h'
      have h1 := V.chk_depth x (lev + 1) n (by simpa using h')
      have h2 := V.chks_depth r lev _ h
      right
      unfold V.depths
      omega
end
end Go.Proofs.YtmccnmahegbmpaaGreat.J

/- Values whose memory a call owns. -/
namespace Go.Proofs.YtmccnmahegbmpaaGreat.J
open Go Go.RowKit
theorem ok_grp {w : World} {A : Foot} {l : List Own} : (Own.grp l).ok w A ↔ ∀ o ∈ l, o.ok w A := by simp [Own.ok, okl_iff]
theorem fp_grp {l : List Own} : (Own.grp l).fp = fps l := by simp [Own.fp, fpl_eq]
theorem Reown.nilGrpE (own : List Own) : Reown own (own ++ [.grp []]) := ⟨fun x => by simp [fps_append, fps_cons, fp_grp, fps_nil], fun w A g o ho => by
  rcases List.mem_append.1 ho with ho | ho
  · exact g o ho
  · simp only [List.mem_singleton] at ho; subst ho; simp [ok_grp]⟩
theorem Reown.tri (o a b : Own) (l : List Own) : Reown (o :: a :: b :: l) (.grp [o, .grp [a, b]] :: l) := ⟨fun x => by simp only [fps_cons, fps_nil, fp_grp, List.count_append, List.count_nil]; omega, fun w A h => by
  simp only [List.forall_mem_cons, ok_grp, List.not_mem_nil, false_implies, implies_true, and_true] at h ⊢
  exact ⟨⟨h.1, h.2.1, h.2.2.1⟩, h.2.2.2⟩⟩
theorem Reown.rot3g (a b c : Own) (l : List Own) : Reown (a :: b :: c :: l) (c :: .grp [a, b] :: l) := ⟨fun x => by simp only [fps_cons, fps_nil, fp_grp, List.count_append, List.count_nil]; omega, fun w A h => by
  simp only [List.forall_mem_cons, ok_grp, List.not_mem_nil, false_implies, implies_true, and_true] at h ⊢
  exact ⟨h.2.2.1, ⟨h.1, h.2.1⟩, h.2.2.2⟩⟩
theorem Reown.grp2 (a b : Own) (l : List Own) : Reown (a :: b :: l) (.grp [a, b] :: l) := ⟨fun x => by simp only [fps_cons, fps_nil, fp_grp, List.count_append, List.count_nil]; omega, fun w A h => by
  simp only [List.forall_mem_cons, ok_grp, List.not_mem_nil, false_implies, implies_true, and_true] at h ⊢
  exact ⟨⟨h.1, h.2.1⟩, h.2.2⟩⟩
section
variable {P : Program} {E : Ent} {Q : Exit → St → Prop} {n : Nat} {env : List (Nat × AV)} {own : List Own} {F : List (Value × AV)} {D : List Deferred} {ops : Array Oper} {l : List Oper} {c : Code}
theorem J.isSlice (i : Nat) {v : Value} {e : ETy} {xs : List (List AV)} (hi : own[i]? = some (.arr v e xs)) (h : v.oneCell' = true → J P E c ⟨n, env, own, F, D⟩ Q) : J P E c ⟨n, env, own, F, D⟩ Q := fun a w ⟨A, hA⟩ => by
  refine h ?_ a w ⟨A, hA⟩
  rcases hA.arr i hi with ⟨_, hv, _⟩ | ⟨_, _, _, _, hv, _⟩ <;> (rw [hv]; rfl)
theorem JL.isSlice (i : Nat) {v : Value} {e : ETy} {xs : List (List AV)} (hi : own[i]? = some (.arr v e xs)) (h : v.oneCell' = true → JL P E ops l ⟨n, env, own, F, D⟩ Q) : JL P E ops l ⟨n, env, own, F, D⟩ Q := fun a w ⟨A, hA⟩ => by
  refine h ?_ a w ⟨A, hA⟩
  rcases hA.arr i hi with ⟨_, hv, _⟩ | ⟨_, _, _, _, hv, _⟩ <;> (rw [hv]; rfl)
end
structure VTr (v : V) (kv iv : Value) (ok oi : Own) : Prop where
  k1 : kv.oneCell' = true
  i1 : iv.oneCell' = true
  ks : Tr (.sl true false eStr (keysAV v.keys)) kv ok
  is : Tr (.sl true false eV (V.css true v.items)) iv oi
def V.raw (v : V) (kv iv : Value) : List AV := [.c (.int .i64 v.kind), .c (.int .u64 (v.bits : Int)), .c (str v.text), .c kv, .c iv]
def V.vals (v : V) (kv iv : Value) : List Value := [.int .i64 v.kind, .int .u64 (v.bits : Int), str v.text, kv, iv]
theorem V.raw_eq (v : V) (kv iv : Value) : v.raw kv iv = (v.vals kv iv).map AV.c := rfl
theorem OwnEq.drops (o : Own) : OwnEq (.grp [.grp [], o]) o := (OwnEq.nest [] [o]).trans (OwnEq.one o)
theorem VTr.trL {v : V} {kv iv : Value} {ok oi : Own} (h : VTr v kv iv ok oi) : TrL (v.cs true) (v.vals kv iv) (.grp [ok, oi]) := by
  obtain ⟨k, b, t, ks, is⟩ := v
  have hn : TrL [] [] (.grp []) := .nil (.refl _)
  refine .cons (.c (.refl _)) (.cons (.c (.refl _)) (.cons (.c (.refl _)) (.cons h.ks (.cons h.is hn (o'' := oi) ?_) (.refl _)) (.drops _)) (.drops _)) (.drops _)
  exact (OwnEq.grp_perm (List.Perm.swap _ _ _)).trans (.drops _)
theorem VTr.ones {v : V} {kv iv : Value} {ok oi : Own} (h : VTr v kv iv ok oi) : (v.vals kv iv).all (·.oneCell') = true := by
  simp [V.vals, h.k1, h.i1]
  exact ⟨rfl, rfl, rfl⟩
theorem keys_trL : ∀ ks : List Str, TrL (keysAV ks).flatten (ks.map str) (.grp [])
  | [] => .nil (.refl _)
  | s :: ks => by
    have := keys_trL ks
    simp only [keysAV, List.map_cons, List.flatten_cons, List.singleton_append] at this ⊢
    exact .cons (.c (.refl _)) this (.drops _)
theorem keys_tr {v : Value} {ks : List Str} (h : ks.length * 16 ≤ reach) : Tr (.sl true false eStr (keysAV ks)) v (.arr v eStr (keysAV ks)) :=
  .sl (us := ks.map str) (keysAV_flat ks) rfl (keysAV_sz ks) (keysAV_sz ks) (by simp; intro s hs; rfl) (by rw [keysAV_length]; exact h) (keys_trL ks) ((OwnEq.grp_perm (List.Perm.swap _ _ _)).trans ((OwnEq.drops _)))
theorem items_tr {v : Value} {is : List V} {cells : List (List AV)} {us : List Value} {o : Own} (h1 : cells.flatten = us.map AV.c) (h2 : cells.length = is.length) (h3 : ∀ x ∈ cells, x.length = 5) (h5 : us.all (·.oneCell') = true) (h6 : is.length * 80 ≤ reach)
    (h : TrL (V.css true is).flatten us o) : Tr (.sl true false eV (V.css true is)) v (.grp [.arr v eV cells, o]) :=
  .sl h1 (by rw [h2, V.css_length]) (V.css_sz true is) h3 h5 (by rw [V.css_length]; exact h6) h (.refl _)
def CopyR (v : V) : AV → List Own → Prop := fun x o => ∃ kv iv ok oi, x = .agg (v.raw kv iv) ∧ o = [ok, oi] ∧ VTr v kv iv ok oi
structure KidsTr (is : List V) (cells : List (List AV)) (us : List Value) (o : Own) : Prop where
  h1 : cells.flatten = us.map AV.c
  h2 : cells.length = is.length
  h3 : ∀ x ∈ cells, x.length = 5
  h5 : us.all (·.oneCell') = true
  h : TrL (V.css true is).flatten us o
theorem KidsTr.nil : KidsTr [] [] [] (.grp []) := ⟨rfl, rfl, (fun _ h => by cases h), rfl, .nil (.refl _)⟩
theorem KidsTr.snoc {is : List V} {cells : List (List AV)} {us : List Value} {o ok oi : Own} {v : V} {kv iv : Value} (h : KidsTr is cells us o) (hv : VTr v kv iv ok oi) : KidsTr (is ++ [v]) (cells ++ [v.raw kv iv]) (us ++ v.vals kv iv) (.grp [o, .grp [ok, oi]]) := by
  refine ⟨by simp [h.h1, V.raw_eq], by simp [h.h2], fun x hx => ?_, by rw [List.all_append, h.h5, hv.ones]; rfl, ?_⟩
  · rcases List.mem_append.1 hx with hx | hx
    · exact h.h3 x hx
    · simp only [List.mem_singleton] at hx; subst hx; rfl
  · rw [V.css_append, List.flatten_append]
    refine h.h.append ?_ (.refl _)
    simpa [V.css] using hv.trL
theorem KidsTr.tr {is : List V} {cells : List (List AV)} {us : List Value} {o : Own} (h : KidsTr is cells us o) {v : Value} (h6 : is.length * 80 ≤ reach) : Tr (.sl true false eV (V.css true is)) v (.grp [.arr v eV cells, o]) :=
  items_tr h.h1 h.h2 h.h3 h.h5 h6 h.h
theorem keys_low (ks : List Str) : LowFl (.sl false false eStr (keysAV ks)) := .sl rfl (keys_fl ks)
theorem items_low (is : List V) : LowFl (.sl false false eV (V.css false is)) := .sl rfl (V.css_fl false is)
theorem VTr.lentK {v : V} {kv iv : Value} {ok oi : Own} (h : VTr v kv iv ok oi) : Lent [(kv, .sl false false eStr (keysAV v.keys))] [ok] := h.ks.lent (keys_le true false (fun h => by cases h) _) (keys_low _)
theorem VTr.lentI {v : V} {kv iv : Value} {ok oi : Own} (h : VTr v kv iv ok oi) : Lent [(iv, .sl false false eV (V.css false v.items))] [oi] := h.is.lent (items_le true false (fun h => by cases h) _) (items_low _)
theorem V.raw_le {F : List (Value × AV)} {v : V} {kv iv : Value} {fr : Bool} (hk : (kv, .sl fr false eStr (keysAV v.keys)) ∈ F) (hi : (iv, .sl fr false eV (V.css fr v.items)) ∈ F) : Le F (.agg (v.raw kv iv)) (.agg (v.cs fr)) := by
  obtain ⟨k, b, t, ks, is⟩ := v
  exact .aggL (.cons (.refl _) (.cons (.refl _) (.cons (.refl _) (.cons (.fact hk (.refl _)) (.cons (.fact hi (.refl _)) .nil)))))
theorem Fn.close {P : Program} {f : FuncId} {xs : List AV} {z : AV} {Rx : AV → List Own → Prop} (h : AC P f [] xs (RetR Rx))
    (hc : ∀ x o, Rx x o → ∃ G, (∀ (w : World) (A : Foot), (∀ y ∈ o, y.ok w A) → (∀ b ∈ fps o, ∀ fr, A fr b) → ∀ p ∈ G, Rd w A p.1 p.2) ∧ Le G x z) : Fn P f xs z := fun w A0 vs h1 h2 => by
  refine (h w A0 vs h1 h2).mono ?_
  rintro e w' ⟨r, own', A, ⟨x, rfl, hR⟩, hk, hp, v, rfl, hv⟩
  obtain ⟨G, hG, hle⟩ := hc x own' hR
  let A' : Foot := fun fr b => A fr b ∨ b ∈ fps own'
  have hup : ∀ fr b, A fr b → A' fr b := fun fr b hb => .inl hb
  have hm : ∀ b, A' true b → A' false b := fun b hb => hb.imp (hp.mono b) id
  have hrd : Rd w' A' v z := (hv.move (fun fr b hb _ => hup fr b hb) fun _ _ _ _ => rfl : Rd w' A' v x).le (F := G) hm
    (hG w' A' (fun y hy => (hp.own y hy).move (fun fr b hb _ => hup fr b hb) (fun _ _ _ _ => rfl) fun _ _ => rfl) fun b hb fr => .inr hb) hle
  refine ⟨.ret z, [], A', ⟨rfl, rfl⟩, hk, ⟨hm, fun fr b hb => hup fr b (hp.sup fr b hb), fun fr b hb => ?_, fun fr b hb => hb.elim (hp.lt fr b) fun hb => (hp.fp b hb).1, fun b hb => by simp [fps] at hb, by simp [fps], fun o ho => by cases ho⟩, v, rfl, hrd⟩
  rcases hb with hb | hb
  · exact hp.sub fr b hb
  · rcases (hp.fp b hb).2.1 with h | h
    · simp [fps] at h
    · exact .inr h
theorem VTr.closG {v : V} {kv iv : Value} {ok oi : Own} (h : VTr v kv iv ok oi) (w : World) (A : Foot) (hok : ∀ y ∈ [ok, oi], y.ok w A) (hb : ∀ b ∈ fps [ok, oi], ∀ fr, A fr b) :
    ∀ p ∈ [(kv, AV.sl true false eStr (keysAV v.keys)), (iv, AV.sl true false eV (V.css true v.items))], Rd w A p.1 p.2 := fun p hp => by
  simp only [List.mem_cons, List.not_mem_nil, or_false] at hp
  simp only [fps_cons, fps_nil, List.append_nil, List.mem_append] at hb
  rcases hp with rfl | rfl
  · exact h.ks.rd (hok _ (by simp)) fun b hb' => hb b (.inl hb') true
  · exact h.is.rd (hok _ (by simp)) fun b hb' => hb b (.inr hb') true
theorem Fn.ofCopy {P : Program} {f : FuncId} {xs : List AV} {v : V} (h : AC P f [] xs (RetR (CopyR v))) : Fn P f xs (.agg (v.cs true)) :=
  Fn.close h fun x o ⟨kv, iv, ok, oi, hx, ho, hV⟩ => by
    subst hx ho
    exact ⟨_, hV.closG, V.raw_le (by simp) (by simp)⟩
end Go.Proofs.YtmccnmahegbmpaaGreat.J

/- Expressions as the values of V0, V1: cells, weakenings, sizes. -/
namespace Go.Proofs.YtmccnmahegbmpaaGreat.J
open Go Go.RowKit
theorem EX.css_getE (fr : Bool) {l : List EX} {i : Nat} (h : i < l.length) : (EX.css fr l)[i]? = some ((l[i]).cs fr) := EX.css_get fr (List.getElem?_eq_getElem h)
theorem EX.css_append (fr : Bool) (a b : List EX) : EX.css fr (a ++ b) = EX.css fr a ++ EX.css fr b := by simp [EX.css_eq]
theorem EX.cs_length (fr : Bool) (v : EX) : (v.cs fr).length = 4 := by cases v; rfl
theorem EX.css_sz (fr : Bool) (l : List EX) : ∀ x ∈ EX.css fr l, x.length = eEX.sz := by
  intro x hx
  rw [EX.css_eq] at hx
  obtain ⟨v, _, rfl⟩ := List.mem_map.1 hx
  exact EX.cs_length fr v
def Xc (fr : Bool) (v : EX) (ys : List AV) : Prop := ys = v.cs fr
theorem Xc.self {fr : Bool} {v : EX} : Xc fr v (v.cs fr) := rfl
theorem Xc.mk {fr : Bool} {o : Int} {b : Nat} {t : Str} {l : List EX} : Xc fr (.mk o b t l) [.c (.int .i64 o), .c (.int .u64 (b : Int)), .c (str t), .sl fr false eEX (EX.css fr l)] := rfl
mutual
def EX.sz : EX → Nat
  | .mk _ _ _ l => 1 + EX.szs l
def EX.szs : List EX → Nat
  | [] => 0
  | x :: r => x.sz + EX.szs r
end
theorem EX.sz_pos (v : EX) : 1 ≤ v.sz := by cases v; unfold EX.sz; omega
theorem EX.szs_mem : ∀ {l : List EX} {x : EX}, x ∈ l → x.sz ≤ EX.szs l
  | y :: r, x, h => by
    unfold EX.szs
    rcases List.mem_cons.1 h with rfl | h
    · omega
    · have := EX.szs_mem h; omega
theorem EX.sz_get {o : Int} {b : Nat} {t : Str} {l : List EX} {j n : Nat} (h : (EX.mk o b t l).sz ≤ n + 1) (hj : j < l.length) : l[j].sz ≤ n := by
  have := EX.szs_mem (List.getElem_mem hj)
  unfold EX.sz at h; omega
theorem EX.wf.inv {o : Int} {b : Nat} {t : Str} {l : List EX} (h : EX.wf (.mk o b t l)) : (-9223372036854775808 ≤ o ∧ o ≤ 9223372036854775807) ∧ b < 2 ^ 64 ∧ t.length ≤ reach ∧ l.length * 56 ≤ reach ∧ ∀ x ∈ l, EX.wf x := by
  cases h with | mk h1 h2 h3 h4 h5 => exact ⟨h1, h2, h3, h4, h5⟩
end Go.Proofs.YtmccnmahegbmpaaGreat.J

/- Facts of the program's tables: sizes, places of fields, zero values, functions with a body; each by computation. -/
namespace Go.Proofs.YtmccnmahegbmpaaGreat.J
open Go Go.RowKit
theorem us2 : (Tryz.prog.underlying 2).isSome = true := by kernel_rfl
theorem iu2 : Tryz.prog.underlying 2 = some (.int .i64) := by kernel_rfl
theorem ty3 : tySz Tryz.prog 3 = some (false, 1, 8) := by kernel_rfl
theorem us3 : (Tryz.prog.underlying 3).isSome = true := by kernel_rfl
theorem iu3 : Tryz.prog.underlying 3 = some (.int .i64) := by kernel_rfl
abbrev et3 : ETy := ⟨1, 8⟩
theorem el3 : elemB Tryz.prog 3 et3 = true := by kernel_rfl
theorem z3 : zeroCells Tryz.prog 3 = some [.int .i64 0] := by kernel_rfl
theorem ty4 : tySz Tryz.prog 4 = some (false, 1, 1) := by kernel_rfl
theorem z4 : zeroCells Tryz.prog 4 = some [.bool false] := by kernel_rfl
theorem ty5 : tySz Tryz.prog 5 = some (false, 1, 1) := by kernel_rfl
theorem iu5 : Tryz.prog.underlying 5 = some (.int .u8) := by kernel_rfl
theorem ty9 : tySz Tryz.prog 9 = some (false, 1, 16) := by kernel_rfl
theorem st9 : Tryz.prog.underlying 9 = some .string := by kernel_rfl
abbrev et9 : ETy := ⟨1, 16⟩
theorem el9 : elemB Tryz.prog 9 et9 = true := by kernel_rfl
theorem z9 : zeroCells Tryz.prog 9 = some [str []] := by kernel_rfl
theorem ty22 : tySz Tryz.prog 22 = some (false, 1, 8) := by kernel_rfl
theorem us22 : (Tryz.prog.underlying 22).isSome = true := by kernel_rfl
theorem iu22 : Tryz.prog.underlying 22 = some (.int .u64) := by kernel_rfl
theorem ty23 : tySz Tryz.prog 23 = some (false, 1, 24) := by kernel_rfl
theorem sl23 : Tryz.prog.underlying 23 = some (.slice 9) := by kernel_rfl
theorem ty24 : tySz Tryz.prog 24 = some (false, 1, 24) := by kernel_rfl
theorem sl24 : Tryz.prog.underlying 24 = some (.slice 26) := by kernel_rfl
theorem ty26 : tySz Tryz.prog 26 = some (true, 5, 80) := by kernel_rfl
theorem pl26 : placesOf Tryz.prog 26 = some [(0, 1), (1, 1), (2, 1), (3, 1), (4, 1)] := by kernel_rfl
theorem fo26_0 : fieldOff Tryz.prog 26 0 = some 0 := by kernel_rfl
theorem fo26_1 : fieldOff Tryz.prog 26 1 = some 1 := by kernel_rfl
theorem fo26_2 : fieldOff Tryz.prog 26 2 = some 2 := by kernel_rfl
theorem fo26_3 : fieldOff Tryz.prog 26 3 = some 3 := by kernel_rfl
theorem fo26_4 : fieldOff Tryz.prog 26 4 = some 4 := by kernel_rfl
abbrev et26 : ETy := ⟨5, 80⟩
theorem el26 : elemB Tryz.prog 26 et26 = true := by kernel_rfl
theorem z26 : zeroCells Tryz.prog 26 = some [.int .i64 0, .int .u64 0, str [], .slice none 0 0, .slice none 0 0] := by kernel_rfl
theorem ty27 : tySz Tryz.prog 27 = some (false, 1, 24) := by kernel_rfl
theorem sl27 : Tryz.prog.underlying 27 = some (.slice 57) := by kernel_rfl
theorem ty29 : tySz Tryz.prog 29 = some (true, 6, 104) := by kernel_rfl
theorem pl29 : placesOf Tryz.prog 29 = some [(0, 5), (5, 1)] := by kernel_rfl
theorem fo29_0 : fieldOff Tryz.prog 29 0 = some 0 := by kernel_rfl
theorem fo29_1 : fieldOff Tryz.prog 29 1 = some 5 := by kernel_rfl
theorem z29 : zeroCells Tryz.prog 29 = some [.int .i64 0, .int .u64 0, str [], .slice none 0 0, .slice none 0 0, .slice none 0 0] := by kernel_rfl
theorem sl30 : Tryz.prog.underlying 30 = some (.slice 47) := by kernel_rfl
theorem ty32 : tySz Tryz.prog 32 = some (false, 1, 24) := by kernel_rfl
theorem sl32 : Tryz.prog.underlying 32 = some (.slice 51) := by kernel_rfl
theorem z32 : zeroCells Tryz.prog 32 = some [.slice none 0 0] := by kernel_rfl
theorem ty33 : tySz Tryz.prog 33 = some (false, 1, 8) := by kernel_rfl
theorem z33 : zeroCells Tryz.prog 33 = some [.int .i64 0] := by kernel_rfl
theorem ty36 : tySz Tryz.prog 36 = some (false, 1, 24) := by kernel_rfl
theorem sl36 : Tryz.prog.underlying 36 = some (.slice 76) := by kernel_rfl
theorem ty38 : tySz Tryz.prog 38 = some (true, 6, 104) := by kernel_rfl
theorem pl38 : placesOf Tryz.prog 38 = some [(0, 5), (5, 1)] := by kernel_rfl
theorem fo38_0 : fieldOff Tryz.prog 38 0 = some 0 := by kernel_rfl
theorem fo38_1 : fieldOff Tryz.prog 38 1 = some 5 := by kernel_rfl
theorem z38 : zeroCells Tryz.prog 38 = some [.int .i64 0, .int .u64 0, str [], .slice none 0 0, .slice none 0 0, .slice none 0 0] := by kernel_rfl
theorem ty47 : tySz Tryz.prog 47 = some (true, 6, 96) := by kernel_rfl
theorem pl47 : placesOf Tryz.prog 47 = some [(0, 1), (1, 5)] := by kernel_rfl
theorem fo47_0 : fieldOff Tryz.prog 47 0 = some 0 := by kernel_rfl
theorem fo47_1 : fieldOff Tryz.prog 47 1 = some 1 := by kernel_rfl
abbrev et47 : ETy := ⟨6, 96⟩
theorem el47 : elemB Tryz.prog 47 et47 = true := by kernel_rfl
theorem z47 : zeroCells Tryz.prog 47 = some [str [], .int .i64 0, .int .u64 0, str [], .slice none 0 0, .slice none 0 0] := by kernel_rfl
theorem ty51 : tySz Tryz.prog 51 = some (true, 6, 96) := by kernel_rfl
theorem pl51 : placesOf Tryz.prog 51 = some [(0, 1), (1, 5)] := by kernel_rfl
theorem fo51_0 : fieldOff Tryz.prog 51 0 = some 0 := by kernel_rfl
abbrev et51 : ETy := ⟨6, 96⟩
theorem el51 : elemB Tryz.prog 51 et51 = true := by kernel_rfl
theorem z51 : zeroCells Tryz.prog 51 = some [str [], .int .i64 0, .int .u64 0, str [], .slice none 0 0, .slice none 0 0] := by kernel_rfl
theorem ty54 : tySz Tryz.prog 54 = some (false, 1, 24) := by kernel_rfl
theorem sl54 : Tryz.prog.underlying 54 = some (.slice 62) := by kernel_rfl
theorem ty55 : tySz Tryz.prog 55 = some (false, 1, 24) := by kernel_rfl
theorem sl55 : Tryz.prog.underlying 55 = some (.slice 84) := by kernel_rfl
theorem ty57 : tySz Tryz.prog 57 = some (true, 3, 64) := by kernel_rfl
theorem pl57 : placesOf Tryz.prog 57 = some [(0, 1), (1, 1), (2, 1)] := by kernel_rfl
theorem fo57_0 : fieldOff Tryz.prog 57 0 = some 0 := by kernel_rfl
theorem fo57_1 : fieldOff Tryz.prog 57 1 = some 1 := by kernel_rfl
theorem fo57_2 : fieldOff Tryz.prog 57 2 = some 2 := by kernel_rfl
abbrev et57 : ETy := ⟨3, 64⟩
theorem el57 : elemB Tryz.prog 57 et57 = true := by kernel_rfl
theorem z57 : zeroCells Tryz.prog 57 = some [str [], .slice none 0 0, .slice none 0 0] := by kernel_rfl
theorem ty58 : tySz Tryz.prog 58 = some (false, 1, 24) := by kernel_rfl
theorem sl58 : Tryz.prog.underlying 58 = some (.slice 60) := by kernel_rfl
theorem ty60 : tySz Tryz.prog 60 = some (true, 4, 56) := by kernel_rfl
theorem pl60 : placesOf Tryz.prog 60 = some [(0, 1), (1, 1), (2, 1), (3, 1)] := by kernel_rfl
theorem fo60_0 : fieldOff Tryz.prog 60 0 = some 0 := by kernel_rfl
theorem fo60_1 : fieldOff Tryz.prog 60 1 = some 1 := by kernel_rfl
theorem fo60_2 : fieldOff Tryz.prog 60 2 = some 2 := by kernel_rfl
theorem fo60_3 : fieldOff Tryz.prog 60 3 = some 3 := by kernel_rfl
abbrev et60 : ETy := ⟨4, 56⟩
theorem el60 : elemB Tryz.prog 60 et60 = true := by kernel_rfl
theorem z60 : zeroCells Tryz.prog 60 = some [.int .i64 0, .int .u64 0, str [], .slice none 0 0] := by kernel_rfl
theorem ty62 : tySz Tryz.prog 62 = some (true, 5, 72) := by kernel_rfl
theorem pl62 : placesOf Tryz.prog 62 = some [(0, 1), (1, 4)] := by kernel_rfl
theorem fo62_0 : fieldOff Tryz.prog 62 0 = some 0 := by kernel_rfl
theorem fo62_1 : fieldOff Tryz.prog 62 1 = some 1 := by kernel_rfl
abbrev et62 : ETy := ⟨5, 72⟩
theorem el62 : elemB Tryz.prog 62 et62 = true := by kernel_rfl
theorem z62 : zeroCells Tryz.prog 62 = some [str [], .int .i64 0, .int .u64 0, str [], .slice none 0 0] := by kernel_rfl
theorem ty66 : tySz Tryz.prog 66 = some (true, 3, 32) := by kernel_rfl
theorem pl66 : placesOf Tryz.prog 66 = some [(0, 1), (1, 1), (2, 1)] := by kernel_rfl
theorem fo66_0 : fieldOff Tryz.prog 66 0 = some 0 := by kernel_rfl
theorem fo66_1 : fieldOff Tryz.prog 66 1 = some 1 := by kernel_rfl
theorem fo66_2 : fieldOff Tryz.prog 66 2 = some 2 := by kernel_rfl
abbrev et66 : ETy := ⟨3, 32⟩
theorem el66 : elemB Tryz.prog 66 et66 = true := by kernel_rfl
theorem z66 : zeroCells Tryz.prog 66 = some [.bool false, str [], .int .i64 0] := by kernel_rfl
theorem sl67 : Tryz.prog.underlying 67 = some (.slice 66) := by kernel_rfl
theorem ty73 : tySz Tryz.prog 73 = some (false, 1, 24) := by kernel_rfl
theorem sl73 : Tryz.prog.underlying 73 = some (.slice 82) := by kernel_rfl
theorem ty74 : tySz Tryz.prog 74 = some (false, 1, 24) := by kernel_rfl
theorem sl74 : Tryz.prog.underlying 74 = some (.slice 86) := by kernel_rfl
theorem ty76 : tySz Tryz.prog 76 = some (true, 3, 64) := by kernel_rfl
theorem pl76 : placesOf Tryz.prog 76 = some [(0, 1), (1, 1), (2, 1)] := by kernel_rfl
theorem fo76_0 : fieldOff Tryz.prog 76 0 = some 0 := by kernel_rfl
theorem fo76_1 : fieldOff Tryz.prog 76 1 = some 1 := by kernel_rfl
theorem fo76_2 : fieldOff Tryz.prog 76 2 = some 2 := by kernel_rfl
abbrev et76 : ETy := ⟨3, 64⟩
theorem el76 : elemB Tryz.prog 76 et76 = true := by kernel_rfl
theorem z76 : zeroCells Tryz.prog 76 = some [str [], .slice none 0 0, .slice none 0 0] := by kernel_rfl
theorem ty77 : tySz Tryz.prog 77 = some (false, 1, 24) := by kernel_rfl
theorem sl77 : Tryz.prog.underlying 77 = some (.slice 79) := by kernel_rfl
theorem ty79 : tySz Tryz.prog 79 = some (true, 4, 56) := by kernel_rfl
theorem pl79 : placesOf Tryz.prog 79 = some [(0, 1), (1, 1), (2, 1), (3, 1)] := by kernel_rfl
theorem fo79_0 : fieldOff Tryz.prog 79 0 = some 0 := by kernel_rfl
theorem fo79_1 : fieldOff Tryz.prog 79 1 = some 1 := by kernel_rfl
theorem fo79_2 : fieldOff Tryz.prog 79 2 = some 2 := by kernel_rfl
theorem fo79_3 : fieldOff Tryz.prog 79 3 = some 3 := by kernel_rfl
abbrev et79 : ETy := ⟨4, 56⟩
theorem el79 : elemB Tryz.prog 79 et79 = true := by kernel_rfl
theorem z79 : zeroCells Tryz.prog 79 = some [.int .i64 0, .int .u64 0, str [], .slice none 0 0] := by kernel_rfl
theorem ty82 : tySz Tryz.prog 82 = some (true, 5, 72) := by kernel_rfl
theorem pl82 : placesOf Tryz.prog 82 = some [(0, 1), (1, 4)] := by kernel_rfl
theorem fo82_0 : fieldOff Tryz.prog 82 0 = some 0 := by kernel_rfl
theorem fo82_1 : fieldOff Tryz.prog 82 1 = some 1 := by kernel_rfl
abbrev et82 : ETy := ⟨5, 72⟩
theorem el82 : elemB Tryz.prog 82 et82 = true := by kernel_rfl
theorem z82 : zeroCells Tryz.prog 82 = some [str [], .int .i64 0, .int .u64 0, str [], .slice none 0 0] := by kernel_rfl
theorem ty84 : tySz Tryz.prog 84 = some (true, 9, 128) := by kernel_rfl
theorem pl84 : placesOf Tryz.prog 84 = some [(0, 4), (4, 1), (5, 4)] := by kernel_rfl
theorem fo84_0 : fieldOff Tryz.prog 84 0 = some 0 := by kernel_rfl
theorem fo84_1 : fieldOff Tryz.prog 84 1 = some 4 := by kernel_rfl
theorem fo84_2 : fieldOff Tryz.prog 84 2 = some 5 := by kernel_rfl
abbrev et84 : ETy := ⟨9, 128⟩
theorem el84 : elemB Tryz.prog 84 et84 = true := by kernel_rfl
theorem z84 : zeroCells Tryz.prog 84 = some [.int .i64 0, .int .u64 0, str [], .slice none 0 0, str [], .int .i64 0, .int .u64 0, str [], .slice none 0 0] := by kernel_rfl
theorem ty86 : tySz Tryz.prog 86 = some (true, 9, 128) := by kernel_rfl
theorem pl86 : placesOf Tryz.prog 86 = some [(0, 4), (4, 1), (5, 4)] := by kernel_rfl
theorem fo86_0 : fieldOff Tryz.prog 86 0 = some 0 := by kernel_rfl
theorem fo86_1 : fieldOff Tryz.prog 86 1 = some 4 := by kernel_rfl
theorem fo86_2 : fieldOff Tryz.prog 86 2 = some 5 := by kernel_rfl
abbrev et86 : ETy := ⟨9, 128⟩
theorem el86 : elemB Tryz.prog 86 et86 = true := by kernel_rfl
theorem z86 : zeroCells Tryz.prog 86 = some [.int .i64 0, .int .u64 0, str [], .slice none 0 0, str [], .int .i64 0, .int .u64 0, str [], .slice none 0 0] := by kernel_rfl
theorem ty94 : tySz Tryz.prog 94 = some (false, 1, 8) := by kernel_rfl
abbrev et94 : ETy := ⟨1, 8⟩
theorem el94 : elemB Tryz.prog 94 et94 = true := by kernel_rfl
theorem z94 : zeroCells Tryz.prog 94 = some [.nilFunc] := by kernel_rfl
theorem fo107_0 : fieldOff Tryz.prog 107 0 = some 0 := by kernel_rfl
theorem fo107_1 : fieldOff Tryz.prog 107 1 = some 1 := by kernel_rfl
theorem z107 : zeroCells Tryz.prog 107 = some [.int .i64 0, .int .i64 0] := by kernel_rfl
theorem sl111 : Tryz.prog.underlying 111 = some (.slice 94) := by kernel_rfl
theorem ty117 : tySz Tryz.prog 117 = some (true, 15, 240) := by kernel_rfl
theorem pl117 : placesOf Tryz.prog 117 = some [(0, 5), (5, 5), (10, 5)] := by kernel_rfl
theorem fo117_0 : fieldOff Tryz.prog 117 0 = some 0 := by kernel_rfl
theorem fo117_1 : fieldOff Tryz.prog 117 1 = some 5 := by kernel_rfl
theorem fo117_2 : fieldOff Tryz.prog 117 2 = some 10 := by kernel_rfl
theorem z117 : zeroCells Tryz.prog 117 = some [.int .i64 0, .int .u64 0, str [], .slice none 0 0, .slice none 0 0, .int .i64 0, .int .u64 0, str [], .slice none 0 0, .slice none 0 0, .int .i64 0, .int .u64 0, str [], .slice none 0 0, .slice none 0 0] := by kernel_rfl
theorem pl119 : placesOf Tryz.prog 119 = some [(0, 15), (15, 1)] := by kernel_rfl
theorem fo119_0 : fieldOff Tryz.prog 119 0 = some 0 := by kernel_rfl
theorem fo119_1 : fieldOff Tryz.prog 119 1 = some 15 := by kernel_rfl
theorem z119 : zeroCells Tryz.prog 119 = some [.int .i64 0, .int .u64 0, str [], .slice none 0 0, .slice none 0 0, .int .i64 0, .int .u64 0, str [], .slice none 0 0, .slice none 0 0, .int .i64 0, .int .u64 0, str [], .slice none 0 0, .slice none 0 0, .int .i64 0] := by kernel_rfl
theorem us125 : (Tryz.prog.underlying 125).isSome = true := by kernel_rfl
theorem iu125 : Tryz.prog.underlying 125 = some (.int .u64) := by kernel_rfl
theorem fo138_0 : fieldOff Tryz.prog 138 0 = some 0 := by kernel_rfl
theorem fo138_1 : fieldOff Tryz.prog 138 1 = some 1 := by kernel_rfl
theorem z138 : zeroCells Tryz.prog 138 = some [.int .i64 0, .int .i64 0] := by kernel_rfl
theorem z142 : zeroCells Tryz.prog 142 = some [.int .i64 0, .int .u64 0, str [], .slice none 0 0, .slice none 0 0, .int .i64 0, .int .u64 0, str [], .slice none 0 0, .slice none 0 0] := by kernel_rfl
theorem us150 : (Tryz.prog.underlying 150).isSome = true := by kernel_rfl
theorem fl150 : Tryz.prog.underlying 150 = some (.float .f64) := by kernel_rfl
theorem ty155 : tySz Tryz.prog 155 = some (false, 1, 8) := by kernel_rfl
theorem pl157 : placesOf Tryz.prog 157 = some [(0, 15), (15, 1)] := by kernel_rfl
theorem fo157_0 : fieldOff Tryz.prog 157 0 = some 0 := by kernel_rfl
theorem fo157_1 : fieldOff Tryz.prog 157 1 = some 15 := by kernel_rfl
theorem z157 : zeroCells Tryz.prog 157 = some [.int .i64 0, .int .u64 0, str [], .slice none 0 0, .slice none 0 0, .int .i64 0, .int .u64 0, str [], .slice none 0 0, .slice none 0 0, .int .i64 0, .int .u64 0, str [], .slice none 0 0, .slice none 0 0, .int .i64 0] := by kernel_rfl
theorem ty161 : tySz Tryz.prog 161 = some (true, 4, 32) := by kernel_rfl
theorem pl161 : placesOf Tryz.prog 161 = some [(0, 1), (1, 1), (2, 1), (3, 1)] := by kernel_rfl
theorem fo161_0 : fieldOff Tryz.prog 161 0 = some 0 := by kernel_rfl
theorem fo161_1 : fieldOff Tryz.prog 161 1 = some 1 := by kernel_rfl
theorem fo161_2 : fieldOff Tryz.prog 161 2 = some 2 := by kernel_rfl
theorem fo161_3 : fieldOff Tryz.prog 161 3 = some 3 := by kernel_rfl
theorem z161 : zeroCells Tryz.prog 161 = some [.int .i64 0, .int .i64 0, .int .i64 0, .int .i64 0] := by kernel_rfl
theorem sl177 : Tryz.prog.underlying 177 = some (.slice 3) := by kernel_rfl
theorem z182 : zeroCells Tryz.prog 182 = some [.int .u8 0, .int .u8 0, .int .u8 0, .int .u8 0, .int .u8 0, .int .u8 0, .int .u8 0, .int .u8 0, .int .u8 0, .int .u8 0, .int .u8 0, .int .u8 0, .int .u8 0, .int .u8 0, .int .u8 0, .int .u8 0, .int .u8 0, .int .u8 0, .int .u8 0, .int .u8 0] := by kernel_rfl
theorem mixed : Tryz.prog.follows .mixedOrders = true := by kernel_rfl
theorem gofn7 : goFn Tryz.prog 7 = true := by kernel_rfl
theorem gofn8 : goFn Tryz.prog 8 = true := by kernel_rfl
theorem gofn9 : goFn Tryz.prog 9 = true := by kernel_rfl
theorem gofn11 : goFn Tryz.prog 11 = true := by kernel_rfl
theorem gofn12 : goFn Tryz.prog 12 = true := by kernel_rfl
theorem gofn15 : goFn Tryz.prog 15 = true := by kernel_rfl
theorem gofn16 : goFn Tryz.prog 16 = true := by kernel_rfl
theorem gofn17 : goFn Tryz.prog 17 = true := by kernel_rfl
theorem gofn18 : goFn Tryz.prog 18 = true := by kernel_rfl
theorem gofn19 : goFn Tryz.prog 19 = true := by kernel_rfl
theorem gofn20 : goFn Tryz.prog 20 = true := by kernel_rfl
theorem gofn21 : goFn Tryz.prog 21 = true := by kernel_rfl
theorem gofn22 : goFn Tryz.prog 22 = true := by kernel_rfl
theorem gofn23 : goFn Tryz.prog 23 = true := by kernel_rfl
theorem gofn24 : goFn Tryz.prog 24 = true := by kernel_rfl
theorem gofn27 : goFn Tryz.prog 27 = true := by kernel_rfl
theorem gofn28 : goFn Tryz.prog 28 = true := by kernel_rfl
theorem gofn29 : goFn Tryz.prog 29 = true := by kernel_rfl
theorem gofn30 : goFn Tryz.prog 30 = true := by kernel_rfl
theorem gofn31 : goFn Tryz.prog 31 = true := by kernel_rfl
theorem gofn32 : goFn Tryz.prog 32 = true := by kernel_rfl
theorem gofn33 : goFn Tryz.prog 33 = true := by kernel_rfl
theorem gofn34 : goFn Tryz.prog 34 = true := by kernel_rfl
theorem gofn35 : goFn Tryz.prog 35 = true := by kernel_rfl
theorem gofn36 : goFn Tryz.prog 36 = true := by kernel_rfl
theorem gofn37 : goFn Tryz.prog 37 = true := by kernel_rfl
theorem gofn38 : goFn Tryz.prog 38 = true := by kernel_rfl
theorem gofn39 : goFn Tryz.prog 39 = true := by kernel_rfl
theorem gofn43 : goFn Tryz.prog 43 = true := by kernel_rfl
theorem gofn44 : goFn Tryz.prog 44 = true := by kernel_rfl
theorem gofn45 : goFn Tryz.prog 45 = true := by kernel_rfl
theorem gofn46 : goFn Tryz.prog 46 = true := by kernel_rfl
theorem gofn47 : goFn Tryz.prog 47 = true := by kernel_rfl
theorem gofn48 : goFn Tryz.prog 48 = true := by kernel_rfl
theorem gofn49 : goFn Tryz.prog 49 = true := by kernel_rfl
theorem gofn50 : goFn Tryz.prog 50 = true := by kernel_rfl
theorem gofn51 : goFn Tryz.prog 51 = true := by kernel_rfl
theorem gofn52 : goFn Tryz.prog 52 = true := by kernel_rfl
theorem gofn53 : goFn Tryz.prog 53 = true := by kernel_rfl
theorem gofn54 : goFn Tryz.prog 54 = true := by kernel_rfl
theorem gofn55 : goFn Tryz.prog 55 = true := by kernel_rfl
theorem gofn56 : goFn Tryz.prog 56 = true := by kernel_rfl
theorem gofn59 : goFn Tryz.prog 59 = true := by kernel_rfl
theorem gofn60 : goFn Tryz.prog 60 = true := by kernel_rfl
theorem gofn61 : goFn Tryz.prog 61 = true := by kernel_rfl
theorem gofn62 : goFn Tryz.prog 62 = true := by kernel_rfl
theorem gofn63 : goFn Tryz.prog 63 = true := by kernel_rfl
theorem gofn64 : goFn Tryz.prog 64 = true := by kernel_rfl
theorem gofn65 : goFn Tryz.prog 65 = true := by kernel_rfl
theorem gofn69 : goFn Tryz.prog 69 = true := by kernel_rfl
theorem gofn70 : goFn Tryz.prog 70 = true := by kernel_rfl
theorem gofn71 : goFn Tryz.prog 71 = true := by kernel_rfl
theorem gofn72 : goFn Tryz.prog 72 = true := by kernel_rfl
theorem gofn73 : goFn Tryz.prog 73 = true := by kernel_rfl
theorem gofn74 : goFn Tryz.prog 74 = true := by kernel_rfl
theorem gofn75 : goFn Tryz.prog 75 = true := by kernel_rfl
theorem gofn76 : goFn Tryz.prog 76 = true := by kernel_rfl
theorem gofn77 : goFn Tryz.prog 77 = true := by kernel_rfl
theorem gofn81 : goFn Tryz.prog 81 = true := by kernel_rfl
theorem extFrom (b : Nat) (w : World) : (callFunc 82 #[.int .u64 (b : Int)]).run Tryz.prog w = .ok (.value (.float .f64 b)) w := by kernel_rfl
theorem gofn83 : goFn Tryz.prog 83 = true := by kernel_rfl
theorem gofn84 : goFn Tryz.prog 84 = true := by kernel_rfl
theorem gofn85 : goFn Tryz.prog 85 = true := by kernel_rfl
theorem gofn86 : goFn Tryz.prog 86 = true := by kernel_rfl
theorem gofn87 : goFn Tryz.prog 87 = true := by kernel_rfl
theorem gofn88 : goFn Tryz.prog 88 = true := by kernel_rfl
theorem gofn89 : goFn Tryz.prog 89 = true := by kernel_rfl
theorem extBits (b : Nat) (w : World) : (callFunc 92 #[.float .f64 b]).run Tryz.prog w = .ok (.value (.int .u64 b)) w := by kernel_rfl
theorem gofn93 : goFn Tryz.prog 93 = true := by kernel_rfl
theorem gofn94 : goFn Tryz.prog 94 = true := by kernel_rfl
theorem gofn95 : goFn Tryz.prog 95 = true := by kernel_rfl
theorem gofn96 : goFn Tryz.prog 96 = true := by kernel_rfl
theorem gofn97 : goFn Tryz.prog 97 = true := by kernel_rfl
theorem gofn98 : goFn Tryz.prog 98 = true := by kernel_rfl
theorem gofn99 : goFn Tryz.prog 99 = true := by kernel_rfl
theorem gofn100 : goFn Tryz.prog 100 = true := by kernel_rfl
theorem gofn105 : goFn Tryz.prog 105 = true := by kernel_rfl
theorem gofn106 : goFn Tryz.prog 106 = true := by kernel_rfl
theorem gofn107 : goFn Tryz.prog 107 = true := by kernel_rfl
theorem gofn108 : goFn Tryz.prog 108 = true := by kernel_rfl
theorem gofn109 : goFn Tryz.prog 109 = true := by kernel_rfl
theorem gofn110 : goFn Tryz.prog 110 = true := by kernel_rfl
theorem gofn111 : goFn Tryz.prog 111 = true := by kernel_rfl
theorem gofn112 : goFn Tryz.prog 112 = true := by kernel_rfl
theorem gofn113 : goFn Tryz.prog 113 = true := by kernel_rfl
theorem gofn114 : goFn Tryz.prog 114 = true := by kernel_rfl
theorem gofn115 : goFn Tryz.prog 115 = true := by kernel_rfl
theorem gofn116 : goFn Tryz.prog 116 = true := by kernel_rfl
theorem gofn119 : goFn Tryz.prog 119 = true := by kernel_rfl
theorem gofn120 : goFn Tryz.prog 120 = true := by kernel_rfl
theorem gofn121 : goFn Tryz.prog 121 = true := by kernel_rfl
theorem gofn122 : goFn Tryz.prog 122 = true := by kernel_rfl
theorem gofn123 : goFn Tryz.prog 123 = true := by kernel_rfl
theorem gofn124 : goFn Tryz.prog 124 = true := by kernel_rfl
theorem gofn125 : goFn Tryz.prog 125 = true := by kernel_rfl
theorem gofn126 : goFn Tryz.prog 126 = true := by kernel_rfl
theorem gofn127 : goFn Tryz.prog 127 = true := by kernel_rfl
theorem gofn130 : goFn Tryz.prog 130 = true := by kernel_rfl
theorem gofn131 : goFn Tryz.prog 131 = true := by kernel_rfl
theorem gofn132 : goFn Tryz.prog 132 = true := by kernel_rfl
theorem gofn133 : goFn Tryz.prog 133 = true := by kernel_rfl
theorem gofn134 : goFn Tryz.prog 134 = true := by kernel_rfl
theorem gofn137 : goFn Tryz.prog 137 = true := by kernel_rfl
theorem gofn138 : goFn Tryz.prog 138 = true := by kernel_rfl
theorem gofn139 : goFn Tryz.prog 139 = true := by kernel_rfl
theorem gofn140 : goFn Tryz.prog 140 = true := by kernel_rfl
theorem gofn141 : goFn Tryz.prog 141 = true := by kernel_rfl
theorem gofn142 : goFn Tryz.prog 142 = true := by kernel_rfl
theorem gofn143 : goFn Tryz.prog 143 = true := by kernel_rfl
theorem gofn144 : goFn Tryz.prog 144 = true := by kernel_rfl
theorem gofn145 : goFn Tryz.prog 145 = true := by kernel_rfl
theorem gofn146 : goFn Tryz.prog 146 = true := by kernel_rfl
theorem gofn148 : goFn Tryz.prog 148 = true := by kernel_rfl
theorem gofn150 : goFn Tryz.prog 150 = true := by kernel_rfl
theorem gofn151 : goFn Tryz.prog 151 = true := by kernel_rfl
theorem gofn152 : goFn Tryz.prog 152 = true := by kernel_rfl
end Go.Proofs.YtmccnmahegbmpaaGreat.J

/- Appends onto slices that are read alone and have no spare places: what comes of them is fresh. Lists of trees. -/
namespace Go.Proofs.YtmccnmahegbmpaaGreat.J
open Go Go.RowKit
section
variable {P : Program} {E : Ent} {st : St} {Q : Exit → St → Prop} {n : Nat} {env : List (Nat × AV)} {own : List Own} {F : List (Value × AV)} {D : List Deferred} {ops : Array Oper} {rest : List Oper}
variable {A : Foot} {a : Act} {w w' : World} {t tx et ty : TypeId} {pos : String} {af : Array Edge} {d : Nat} {dd : Option Tmp} {gd : Option (Nat × Bool)} {s x y : Operand}
theorem SatA.drawn (h : SatA E A st a w) : SatA E A st a (World.drawnBy w) := by
  obtain ⟨n, env, own, F, D⟩ := st
  exact h.draw
end
theorem Reown.ofEq {a b : List Own} (h : a = b) : Reown a b := h ▸ .refl _
end Go.Proofs.YtmccnmahegbmpaaGreat.J

/- Regions that draw their order, with allocations that hang on nothing among their operations. -/
namespace Go.Proofs.YtmccnmahegbmpaaGreat.J
open Go Go.RowKit
abbrev Al := List (Nat × Nat × List AV)
def AllocOp (P : Program) (o : Oper) (d : Nat) (z : List AV) : Prop :=
  ∃ t ty pos af vs, o = ⟨some d, .alloc t, ty, pos, af, none⟩ ∧ zeroCells P t = some vs ∧ vs.all (·.oneCell') = true ∧ z = vs.map AV.c
theorem AllocOp.dst {P : Program} {o : Oper} {d : Nat} {z : List AV} (h : AllocOp P o d z) : o.dst = some d := by
  obtain ⟨t, ty, pos, af, vs, rfl, _⟩ := h; rfl
theorem AllocOp.guard {P : Program} {o : Oper} {d : Nat} {z : List AV} (h : AllocOp P o d z) : o.guard = none := by
  obtain ⟨t, ty, pos, af, vs, rfl, _⟩ := h; rfl
theorem AllocOp.mk {P : Program} {t : TypeId} {ty : TypeId} {pos : String} {af : Array Edge} {d : Nat} {vs : List Value} (hz : zeroCells P t = some vs) (h1 : vs.all (·.oneCell') = true) : AllocOp P ⟨some d, .alloc t, ty, pos, af, none⟩ d (vs.map AV.c) := ⟨t, ty, pos, af, vs, rfl, hz, h1, rfl⟩
theorem AllocOp.run {P : Program} {E : Ent} {o : Oper} {d : Nat} {z : List AV} (h : AllocOp P o d z) {n : Nat} {env : List (Nat × AV)} {own ex : List Own} {F : List (Value × AV)} {D : List Deferred} {A : Foot} {a : Act} {w : World} {Qx : Exit → Act → World → Prop}
    (hA : SatA E A ⟨n, env, own ++ ex, F, D⟩ a w) (K : Act → World → Prop)
    (hK : ∀ b w', Frm w A w' A → SatA E A ⟨n, env, .box b z :: (own ++ ex), F, D⟩ a w' → K (a.put o.dst (.pointer (some ⟨b, 0, none⟩))) w') : o.wpIn (fen E.rd) 0 P a w K Qx := by
  obtain ⟨t, ty, pos, af, vs, rfl, hz, h1, rfl⟩ := h
  refine wpR (by intro c h; cases h) ?_
  unfold Oper.wp
  obtain ⟨i, zv, h2, h3, h4⟩ : ∃ i zv, P.info? t = some i ∧ i.zero = some zv ∧ zv.cells.toList = vs := by
    unfold zeroCells at hz
    cases hi : P.info? t with
    | none => rw [hi] at hz; cases hz
    | some i =>
      rw [hi] at hz
      cases hzz : i.zero with
      | none => simp [hzz] at hz
      | some zv => exact ⟨i, zv, rfl, hzz, by simpa [hzz] using hz⟩
  have hr : (execOp a.eval ⟨some d, .alloc t, ty, pos, af, none⟩).run P w = .ok (.value (.pointer (some ⟨w.heap.size, 0, none⟩))) (World.pushed w (.cells vs.toArray t)) := by
    subst h4
    simp [execOp, Instr.alloc, zeroValue, run_typeInfo h2, h3, newVar, newRow, World.pushed]
  rw [hr, Oper.upon_value]
  have hs := hA.step (.push _ _ _) (fun _ _ h => h) (hA.hp.push_box (us := vs.toArray) (t := t) hA.keep.size (by simp) (.const h1))
  refine hK w.heap.size _ (fun v x hx => hx.move (fun _ _ h _ => h) (fun fr b hb _ => (Keep.push [] _ _).block b (hA.hp.lt fr b hb) (by simp))) hs
section
variable {P : Program} {E : Ent} {Q : Exit → St → Prop} {n : Nat} {env : List (Nat × AV)} {own : List Own} {R : Outs → List Own → AV → List Own → Prop} {M : Nat} {F : List (Value × AV)} {D : List Deferred} {ops : Array Oper}
end
section
variable {P : Program} {E : Ent} {Q : Exit → St → Prop} {n : Nat} {env : List (Nat × AV)} {own : List Own} {R : Outs → List Own → AV → List Own → Prop} {M : Nat} {F : List (Value × AV)} {D : List Deferred} {ops : Array Oper}
variable {i j p : Nat} {da : Al} {K : List Slot → Al → Prop}
theorem mrg_frame : ∀ (ms : List Cd) (ps own ex : List Own), ms.length ≤ own.length → (mrg ms ps (own ++ ex)).Perm (mrg ms ps own ++ ex)
  | [], ps, own, ex, _ => by
    simp only [mrg, List.append_assoc]
    exact List.Perm.append_left _ List.perm_append_comm
  | _ :: _, _, [], _, h => by simp at h
  | .p :: ms, p :: ps, _ :: own, ex, h => by simpa [mrg] using mrg_frame ms ps own ex (by simpa using h)
  | .p :: ms, [], _ :: own, ex, h => by simpa [mrg] using mrg_frame ms [] own ex (by simpa using h)
  | .k :: ms, ps, o :: own, ex, h => by simpa [mrg] using mrg_frame ms ps own ex (by simpa using h)
  | .l :: ms, ps, o :: own, ex, h => by simpa [mrg] using mrg_frame ms ps own ex (by simpa using h)
end
end Go.Proofs.YtmccnmahegbmpaaGreat.J

/- Parts of own arrays: an own array laid open as a block; slices of it as constants; copies, appends in place, clearing, room that is made. -/
namespace Go.Proofs.YtmccnmahegbmpaaGreat.J
open Go Go.RowKit
abbrev sv (b off l c : Nat) : Value := .slice (some ⟨b, off, none⟩) l c
section
variable {P : Program} {E : Ent} {st : St} {Q : Exit → St → Prop} {n B : Nat} {env : List (Nat × AV)} {own : List Own} {F : List (Value × AV)} {D : List Deferred} {ops : Array Oper} {rest : List Oper} {c : Code}
variable {A : Foot} {a : Act} {w w' : World} {t tx et ty : TypeId} {pos : String} {af : Array Edge} {d : Nat} {dd : Option Tmp} {gd : Option (Nat × Bool)} {x y s lo hi mx : Operand} {g : Bool} {m : Nat} {k k' k'' : IntKind} {i j j' : Int}
/-! ### open and shut -/
theorem SatA.swap {i : Nat} {o o' : Own} (h : SatA E A ⟨n, env, own, F, D⟩ a w) (hi : own[i]? = some o) (hf : o'.fp = o.fp) (ho : o'.ok w A) : SatA E A ⟨n, env, own.set i o', F, D⟩ a w :=
  ⟨h.size, h.defers, h.keep, h.hp.upd hi hf (.refl _ _) rfl ho, h.env, h.facts⟩
theorem SatA.lay {i : Nat} {v : Value} {e : ETy} {xs : List (List AV)} (h : SatA E A ⟨n, env, own, F, D⟩ a w) (hi : own[i]? = some (.arr v e xs)) :
    (∃ a0, v = .slice a0 0 0 ∧ xs = []) ∨ ∃ b cap sp, v = sv b 0 xs.length (cap + 1) ∧ xs.length ≤ cap + 1 ∧ (∀ x ∈ xs, x.length = e.sz) ∧ xs.flatten.length + List.length sp = (cap + 1) * e.sz ∧
      SatA E A ⟨n, env, own.set i (.box b (xs.flatten ++ sp.map AV.c)), F, D⟩ a w := by
  rcases h.arr i hi with h0 | ⟨b, cap, us, t, hv, h1, h2, h3, h4, h5⟩
  · exact .inl h0
  have hfl := flatten_length xs h4
  have hle : xs.flatten.length ≤ us.size := by rw [hfl, h3.size]; exact Nat.mul_le_mul_right _ h2
  have h3s := h3.size
  have hul : us.toList.length = us.size := by simp
  refine .inr ⟨b, cap, us.toList.drop xs.flatten.length, hv, h2, h4, by rw [List.length_drop]; omega, h.swap hi (by rw [hv]; rfl) ?_⟩
  refine ⟨us, t, h1, by rw [List.length_append, List.length_map, List.length_drop]; omega, fun k y hk => ?_⟩
  rw [Nat.zero_add]
  by_cases hlt : k < xs.flatten.length
  · rw [List.getElem?_append_left hlt] at hk
    have := h5 k y hk
    rwa [Nat.zero_add] at this
  · rw [List.getElem?_append_right (by omega), List.getElem?_map, List.getElem?_drop] at hk
    rw [show xs.flatten.length + (k - xs.flatten.length) = k by omega] at hk
    cases hu : us[k]? with
    | none => rw [Array.getElem?_toList, hu] at hk; cases hk
    | some u =>
      rw [Array.getElem?_toList, hu] at hk
      simp only [Option.map_some, Option.some.injEq] at hk
      subst hk
      exact ⟨u, rfl, h3.one k u hu, .c u⟩
theorem J.lay (i : Nat) {v : Value} {e : ETy} {xs : List (List AV)} (hi : own[i]? = some (.arr v e xs)) (h0 : ∀ a0, v = .slice a0 0 0 → xs = [] → J P E c ⟨n, env, own, F, D⟩ Q)
    (h1 : ∀ b cap sp, v = sv b 0 xs.length (cap + 1) → xs.length ≤ cap + 1 → (∀ x ∈ xs, x.length = e.sz) → xs.flatten.length + List.length sp = (cap + 1) * e.sz → J P E c ⟨n, env, own.set i (.box b (xs.flatten ++ sp.map AV.c)), F, D⟩ Q) : J P E c ⟨n, env, own, F, D⟩ Q := fun a w ⟨A, hA⟩ => by
  rcases hA.lay hi with ⟨a0, hv, hx⟩ | ⟨b, cap, sp, hv, g1, g2, g3, g4⟩
  · exact h0 a0 hv hx a w ⟨A, hA⟩
  · exact h1 b cap sp hv g1 g2 g3 a w ⟨A, g4⟩
theorem SatA.fold {i : Nat} {b cap : Nat} {ys : List AV} {v : Value} {e : ETy} {xs : List (List AV)} (h : SatA E A ⟨n, env, own, F, D⟩ a w) (hi : own[i]? = some (.box b ys)) (hv : v = sv b 0 xs.length (cap + 1)) (hle : xs.length ≤ cap + 1)
    (hs : ∀ x ∈ xs, x.length = e.sz) (hl : ys.length = (cap + 1) * e.sz) (hp : ys.take xs.flatten.length = xs.flatten) : SatA E A ⟨n, env, own.set i (.arr v e xs), F, D⟩ a w := by
  obtain ⟨us, t, h1, h2, h3⟩ := (h.hp.own _ (List.mem_of_getElem? hi) : (Own.box b ys).ok w A)
  refine h.swap hi (by rw [hv]; rfl) (.inr ⟨b, cap, us, t, hv, h1, hle, ⟨by rw [h2, hl], fun k u hu => ?_⟩, hs, fun k y hk => ?_⟩)
  · have hk : k < ys.length := by rw [← h2]; exact (Array.getElem?_eq_some_iff.1 hu).1
    obtain ⟨u', g1, g2, _⟩ := h3 k _ (List.getElem?_eq_getElem hk)
    rw [Nat.zero_add, hu] at g1
    cases g1; exact g2
  · refine h3 k y ?_
    have hk1 := (List.getElem?_eq_some_iff.1 hk).1
    rw [← hp] at hk
    rw [List.getElem?_take] at hk
    rwa [if_pos hk1] at hk
theorem J.fold (i : Nat) {b cap : Nat} {ys : List AV} {v : Value} {e : ETy} (xs : List (List AV)) (hi : own[i]? = some (.box b ys)) (hv : v = sv b 0 xs.length (cap + 1)) (hle : xs.length ≤ cap + 1)
    (hs : ∀ x ∈ xs, x.length = e.sz) (hl : ys.length = (cap + 1) * e.sz) (hp : ys.take xs.flatten.length = xs.flatten) {own' : List Own} (ho : own.set i (.arr v e xs) = own') (h : J P E c ⟨n, env, own', F, D⟩ Q) : J P E c ⟨n, env, own, F, D⟩ Q := fun a w ⟨A, hA⟩ => by
  subst ho
  exact h a w ⟨A, hA.fold hi hv hle hs hl hp⟩
/-! ### slices of a block, as constants -/
theorem cut_val {b off cap : Nat} {l : Nat} {off' : Nat} (ho : (if cap = l then off else off + l * m) = off') (l' c' : Nat) : (Value.slice (if cap = l then some ⟨b, off, none⟩ else (some ⟨b, off, none⟩ : Option Addr).map (·.add (l * m))) l' c') = sv b off' l' c' := by
  subst ho
  split
  · rfl
  · rw [Option.map_some, add_at]
theorem QW.cutL {b off len cap l off' : Nat} (hU : P.underlying t = some (.slice et)) (hT : tySz P et = some (g, m, B)) (hx : Ev E st x (.c (sv b off len cap))) (hlo : Ev E st lo (.c (.int k i))) (hi : i = (l : Int)) (hl : l ≤ len) (hc : len ≤ cap) (ho : (if cap = l then off else off + l * m) = off') :
    QW P E st ⟨dd, .slice t x (some lo) none none, ty, pos, af, gd⟩ (.c (sv b off' (len - l) (cap - l))) := .pure fun A a w hs => by
  refine ⟨sv b off' (len - l) (cap - l), ?_, .c _⟩
  have := run_slice (P := P) (w := w) (ad := some ⟨b, off, none⟩) (k := k) (k' := .i64) hU hT (some l) none (len := len) (cap := cap) (by simpa using hl) (by simpa using hc)
  simp only [bnd, Option.getD_some, Option.getD_none] at this
  rw [cut_val ho] at this
  simp only [execOp, hx.eq hs, Option.map_some, Option.map_none, EvBnd hlo hi hs, Sem.run_bind, this, Result.andThen_ok, Sem.run_pure]
theorem QW.cutH {b off len cap h : Nat} (hU : P.underlying t = some (.slice et)) (hT : tySz P et = some (g, m, B)) (hx : Ev E st x (.c (sv b off len cap))) (hhi : Ev E st hi (.c (.int k j))) (hj : j = (h : Int)) (hc : h ≤ cap) :
    QW P E st ⟨dd, .slice t x none (some hi) none, ty, pos, af, gd⟩ (.c (sv b off h cap)) := .pure fun A a w hs => by
  refine ⟨sv b off h cap, ?_, .c _⟩
  have := run_slice (P := P) (w := w) (ad := some ⟨b, off, none⟩) (k := .i64) (k' := k) hU hT none (some h) (len := len) (cap := cap) (by simp) (by simpa using hc)
  simp only [bnd, Option.getD_some, Option.getD_none, Nat.sub_zero] at this
  rw [cut_val (l := 0) (off' := off) (by split <;> simp)] at this
  simp only [execOp, hx.eq hs, Option.map_some, Option.map_none, EvBnd hhi hj hs, Sem.run_bind, this, Result.andThen_ok, Sem.run_pure]
theorem QW.cap_c {ad : Option Addr} {l cap : Nat} (hU : P.underlying t = some (.slice et)) (h : Ev E st x (.c (.slice ad l cap))) : QW P E st ⟨dd, .call ⟨.builtin .cap, #[x], #[t]⟩, ty, pos, af, gd⟩ (.c (.int .i64 (cap : Int))) := .pure fun A a w hs =>
  ⟨_, by simp [execOp, resolve, invoke, builtin, Builtin.cap_, run_underlying _ hU, h.eq hs, goInt], .c _⟩
/-! ### what is copied -/
def SrcN (P : Program) (w : World) (A : Foot) (sz m l : Nat) (v : Value) (zs : List AV) : Prop :=
  ∃ ad cp cs, v = .slice ad l cp ∧ (Builtin.firstCells sz m v).run P w = .ok (List.toArray cs) w ∧ Cells w A cs.toArray 0 zs ∧ cs.length = zs.length ∧ zs.length = m * sz
theorem cells_part {us : Array Value} {zs : List AV} {b off o2 mm : Nat} {tt : TypeId} {fz : Nat × Nat} (h : Cells w A us off zs) (hb : w.heap[b]? = some (.cells us tt fz)) (hle : o2 + mm ≤ zs.length) :
    ∃ cs : List Value, cs.length = mm ∧ (∀ j u, cs[j]? = some u → w.cell? ((⟨b, off + o2, none⟩ : Addr).add j) = some u) ∧ Cells w A cs.toArray 0 ((zs.drop o2).take mm) := by
  have hg : ∀ q, q < mm → ∃ u, us[off + (o2 + q)]? = some u ∧ u.oneCell' = true ∧ ∀ y, zs[o2 + q]? = some y → Rd w A u y := fun q hq => by
    obtain ⟨u, h1, h0, h2⟩ := h (o2 + q) _ (List.getElem?_eq_getElem (by omega))
    exact ⟨u, h1, h0, fun y hy => by rw [List.getElem?_eq_getElem (by omega)] at hy; cases hy; exact h2⟩
  have hu : ∀ q, q < mm → us[off + (o2 + q)]? = some (us.getD (off + (o2 + q)) undef) := fun q hq => by
    obtain ⟨u, h1, _⟩ := hg q hq
    simp [Array.getD_eq_getD_getElem?, h1]
  refine ⟨(List.range mm).map fun q => us.getD (off + (o2 + q)) undef, by simp, fun q u hq => ?_, fun q y hq => ?_⟩
  · rw [List.getElem?_map] at hq
    by_cases hlt : q < mm
    · rw [List.getElem?_range hlt] at hq; cases hq
      rw [add_at, cell_at hb, Nat.add_assoc]; exact hu q hlt
    · rw [List.getElem?_eq_none (by simpa using hlt)] at hq; cases hq
  · rw [List.getElem?_take] at hq
    split at hq
    · rename_i hlt
      rw [List.getElem?_drop] at hq
      obtain ⟨u, h1, h0, h2⟩ := hg q hlt
      have : us.getD (off + (o2 + q)) undef = u := by simp [Array.getD_eq_getD_getElem?, h1]
      exact ⟨u, by simp [hlt, h1], h0, h2 y hq⟩
    · cases hq
theorem SrcN.box {sz mm l cp b2 o2 i2 : Nat} {zs : List AV} {st : St} (h : Ev E st x (.c (sv b2 o2 l cp))) (ho : st.own[i2]? = some (.box b2 zs)) (hm : mm ≤ l) (hle : o2 + mm * sz ≤ zs.length) : ∀ A a w, SatA E A st a w → SrcN P w A sz mm l (a.eval x) ((zs.drop o2).take (mm * sz)) := fun A a w hs => by
  obtain ⟨us, tt, h1, h2, h3⟩ := (hs.hp.own _ (List.mem_of_getElem? ho) : (Own.box b2 zs).ok w A)
  obtain ⟨cs, g1, g2, g3⟩ := cells_part (off := 0) h3 h1 hle
  rw [Nat.zero_add] at g2
  refine ⟨_, _, cs, h.eq hs, ?_, g3, by rw [g1]; simp; omega, by simp; omega⟩
  rw [h.eq hs]
  exact run_firstCells_some w sz mm ⟨b2, o2, none⟩ l cp cs g1 g2
theorem SrcN.sl {sz mm : Nat} {fr clip : Bool} {e : ETy} {xs : List (List AV)} {st : St} (h : Ev E st x (.sl fr clip e xs)) (hsz : e.sz = sz) (hm : mm ≤ xs.length) : ∀ A a w, SatA E A st a w → SrcN P w A sz mm xs.length (a.eval x) (xs.flatten.take (mm * sz)) := fun A a w hs => by
  obtain ⟨ad, cap, hv, _, _, hc⟩ := (h A a w hs).of_sl
  rcases hc with rfl | ⟨b, off, cs, t', fz, rfl, hAb, hb, hxl, _, hc⟩
  · obtain rfl : mm = 0 := by simpa using hm
    refine ⟨_, _, [], hv, ?_, fun k y hk => by simp at hk, by simp, by simp⟩
    rw [hv]
    cases ad with
    | none => exact run_firstCells_none w sz 0 _ _
    | some a' => exact run_firstCells_some w sz 0 a' _ _ [] (by simp) (by intro _ _ h'; simp at h')
  · have hfl := flatten_length xs hxl
    subst hsz
    have hle : 0 + mm * e.sz ≤ xs.flatten.length := by rw [hfl, Nat.zero_add]; exact Nat.mul_le_mul_right _ hm
    obtain ⟨vs, g1, g2, g3⟩ := cells_part (o2 := 0) hc hb hle
    rw [List.drop_zero] at g3
    refine ⟨_, _, vs, hv, ?_, g3, by rw [g1, List.length_take]; omega, by rw [List.length_take]; omega⟩
    rw [hv]
    exact run_firstCells_some w e.sz mm ⟨b, off, none⟩ _ _ vs g1 (by simpa using g2)
theorem SrcN.one {sz : Nat} {fr clip : Bool} {e : ETy} {ys : List AV} {st : St} (h : Ev E st x (.sl fr clip e [ys])) (hsz : e.sz = sz) (hy : ys.length = sz) : ∀ A a w, SatA E A st a w → SrcN P w A sz 1 1 (a.eval x) ys := fun A a w hs => by
  have := SrcN.sl (P := P) (mm := 1) h hsz (Nat.le_refl 1) A a w hs
  have h2 : ([ys] : List (List AV)).flatten.take (1 * sz) = ys := by
    rw [Nat.one_mul, show ([ys] : List (List AV)).flatten = ys by simp]
    exact List.take_of_length_le (Nat.le_of_eq hy)
  rwa [h2] at this
theorem SrcN.boxE {sz mm l cp b2 o2 i2 q : Nat} {zs : List AV} {st : St} (h : Ev E st x (.c (sv b2 o2 l cp))) (ho : st.own[i2]? = some (.box b2 zs)) (hq : mm * sz = q) (hm : mm ≤ l) (hle : o2 + q ≤ zs.length) : ∀ A a w, SatA E A st a w → SrcN P w A sz mm l (a.eval x) ((zs.drop o2).take q) := by
  subst hq
  exact SrcN.box h ho hm hle
theorem SatA.lays {i b off : Nat} {ys zs : List AV} {cs : List Value} (hA : SatA E A ⟨n, env, own, F, D⟩ a w) (ho : own[i]? = some (.box b ys)) (hc : Cells w A cs.toArray 0 zs) (hl : cs.length = zs.length) (hle : off + zs.length ≤ ys.length) :
    ∃ w1, (storeCells ⟨b, off, none⟩ cs 0).run P w = .ok () w1 ∧ SatA E A ⟨n, env, own.set i (.box b (splice ys off zs)), F, D⟩ a w1 := by
  have hmem := List.mem_of_getElem? ho
  obtain ⟨us, tt, h1, h2, h3⟩ := (hA.hp.own _ hmem : (Own.box b ys).ok w A)
  obtain ⟨w1, us1, hr1, hk1, hz1, hb1, hs1, hu1⟩ := run_storeCells (P := P) (off := off) cs 0 us w h1 (by omega) (List.all_eq_true.2 (hc.ones hl))
  refine ⟨w1, hr1, ?_⟩
  have hfp : ∀ fr q, A fr q → q < w.heap.size → w1.heap[q]? = w.heap[q]? := fun fr q hq hlt => hk1.block q hlt fun hm' => by
    simp only [List.mem_singleton] at hm'
    subst hm'
    exact (hA.hp.fp q (fps_mem hmem (by simp [Own.fp]))).2.2 fr hq
  refine hA.step (hk1.mono fun q hq => fps_mem hmem (by simpa [Own.fp] using hq)) (fun _ _ h => h) (hA.hp.upd (o' := .box b (splice ys off zs)) ho (by simp [Own.fp]) (by simpa [Own.fp] using hk1) hz1 ⟨us1, tt, hb1, by rw [hs1, h2, splice_length hle], ?_⟩)
  exact (h3.spliced hc hl hle (by simpa using hu1)).keep hfp
theorem JL.copyN (i : Nat) {b o1 l1 c1 l2 mm sz : Nat} {ys zs : List AV} (hU : P.underlying t = some (.slice et)) (hT : tySz P et = some (g, sz, B)) (hs : Ev E ⟨n, env, own, F, D⟩ s (.c (sv b o1 l1 c1))) (ho : own[i]? = some (.box b ys))
    (hx : ∀ A a w, SatA E A ⟨n, env, own, F, D⟩ a w → SrcN P w A sz mm l2 (a.eval x) zs) (hm : Nat.min l2 l1 = mm) (hle : o1 + zs.length ≤ ys.length) (hd : Nat.blt d n = true)
    (h : JL P E ops rest ⟨n, (d, .c (.int .i64 (mm : Int))) :: env, own.set i (.box b (splice ys o1 zs)), F, D⟩ Q) :
    JL P E ops (⟨some d, .call ⟨.builtin .copy, #[s, x], #[t, tx]⟩, ty, pos, af, none⟩ :: rest) ⟨n, env, own, F, D⟩ Q := fun a w ⟨A, hA⟩ => by
  refine wpListIn_plain rfl fun K hK => ?_
  refine wpR (by intro c h; cases h) ?_
  unfold Oper.wp
  obtain ⟨ad, cp, cs, hv, hf, hc, hl, _⟩ := hx A a w hA
  obtain ⟨w1, hr1, hS⟩ := hA.lays (P := P) ho hc hl hle
  have hr : (Builtin.copy_ #[t, tx] ty #[sv b o1 l1 c1, a.eval x]).run P w = .ok (.int .i64 (mm : Int)) w1 := by
    rw [hv] at hf ⊢
    simp [Builtin.copy_, run_underlying _ hU, Builtin.lenOf, hm, run_sizeOf hT, hf, hr1, goInt]
  have he : (execOp a.eval ⟨some d, .call ⟨.builtin .copy, #[s, x], #[t, tx]⟩, ty, pos, af, none⟩).run P w = .ok (.value (.int .i64 (mm : Int))) w1 := by
    simp [execOp, resolve, invoke, builtin, hs.eq hA, hr, Result.andThen]
  rw [he, Oper.upon_value]
  exact hK _ _ (h _ _ ⟨A, hS.put (blt_lt hd) (.c _)⟩)
theorem JL.appMake (i : Nat) {b o1 l1 c1 q : Nat} {e : ETy} {ys : List AV} {kn kq : IntKind} (hU : P.underlying t = some (.slice et)) (hN : P.underlying tx = some (.int kn)) (hE : elemB P et e = true) (h0 : Nat.blt 0 e.sz = true) (hs : Ev E ⟨n, env, own, F, D⟩ s (.c (sv b o1 l1 c1))) (ho : own[i]? = some (.box b ys))
    (hx : Ev E ⟨n, env, own, F, D⟩ x (.c (.int kq (q : Int)))) (hq : 0 < q) (hg : c1 < l1 + q) (hle : o1 + l1 * e.sz ≤ ys.length) (hreach : (l1 + q) * e.bytes ≤ reach) (hr63 : l1 + q ≤ reach) (hd : Nat.blt d n = true)
    (h : ∀ b' cap tl, l1 + q ≤ cap + 1 → ((ys.drop o1).take (l1 * e.sz)).length = l1 * e.sz → l1 * e.sz + List.length tl = (cap + 1) * e.sz → JL P E ops rest ⟨n, (d, .c (sv b' 0 (l1 + q) (cap + 1))) :: env, .box b' ((ys.drop o1).take (l1 * e.sz) ++ tl) :: own, F, D⟩ Q) :
    JL P E ops (⟨some d, .call ⟨.builtin .append, #[s, x], #[t, tx]⟩, ty, pos, af, none⟩ :: rest) ⟨n, env, own, F, D⟩ Q := fun a w ⟨A, hA⟩ => by
  refine wpListIn_plain rfl fun K hK => ?_
  refine wpR (by intro c h; cases h) ?_
  unfold Oper.wp
  obtain ⟨ti, tz, hi, hsz, hby, hz, hzs, hz1⟩ := elemB_get hE
  have hA' := hA.draw
  obtain ⟨us, tt, g1, g2, g3⟩ := (hA'.hp.own _ (List.mem_of_getElem? ho) : (Own.box b ys).ok _ A)
  obtain ⟨cs, k1, k2, k3⟩ := cells_part (off := 0) g3 g1 hle
  rw [Nat.zero_add] at k2
  have hold : (Builtin.firstCells ti.size l1 (sv b o1 l1 c1)).run P w.drew = .ok cs.toArray w.drew := run_firstCells_some w.drew ti.size l1 ⟨b, o1, none⟩ l1 c1 cs (by rw [hsz]; exact k1) k2
  have hp := blt_lt h0
  unfold reach at hr63 hreach
  have hqb : q * ti.bytes ≤ (l1 + q) * e.bytes := by rw [hby]; exact Nat.mul_le_mul_right _ (by omega)
  have hr := Go.Lib.run_append_grow_zeros (P := P) w t tx ty et ti tz kq kn hU hN hi hz (some ⟨b, o1, none⟩) l1 c1 cs hold q hq (by omega) hg (by omega) (by omega) (growslice_fits hg (by rw [hby]; omega))
  have hge := grownCap_ge w (l1 + q) c1 et
  rw [run_builtin_append (hs.eq hA) rfl (by rw [hx.eq hA]; exact hr), Oper.upon_value, alloc_eq]
  obtain ⟨cap, hcap⟩ : ∃ cap, grownCap w (l1 + q) c1 et = cap + 1 := ⟨grownCap w (l1 + q) c1 et - 1, by omega⟩
  generalize hrow : (cs.toArray ++ Builtin.zeroCells tz.cells q ++ Builtin.zeroCells tz.cells (grownCap w (l1 + q) c1 et - (l1 + q)) : Array Value) = row at *
  have hz0 : ∀ u ∈ Builtin.zeroCells tz.cells q ++ Builtin.zeroCells tz.cells (grownCap w (l1 + q) c1 et - (l1 + q)), u.oneCell' = true := fun u hu => by
    rcases Array.mem_append.1 hu with hu | hu <;> exact zeroCells_one hz1 u hu
  let tl : List AV := (Builtin.zeroCells tz.cells q ++ Builtin.zeroCells tz.cells (grownCap w (l1 + q) c1 et - (l1 + q))).toList.map AV.c
  have hhl : ((ys.drop o1).take (l1 * e.sz)).length = l1 * e.sz := by rw [List.length_take, List.length_drop]; omega
  have htl : tl.length = (q + (cap + 1 - (l1 + q))) * e.sz := by simp [tl, size_zeroCells, hzs, hcap, Nat.add_mul]
  have hrl : row = cs.toArray ++ (Builtin.zeroCells tz.cells q ++ Builtin.zeroCells tz.cells (grownCap w (l1 + q) c1 et - (l1 + q))) := by rw [← hrow, Array.append_assoc]
  have hrc : Cells (World.drawnBy w) A row 0 ((ys.drop o1).take (l1 * e.sz) ++ tl) := fun r y hk => by
    rw [Nat.zero_add]
    by_cases hlt : r < ((ys.drop o1).take (l1 * e.sz)).length
    · rw [List.getElem?_append_left hlt] at hk
      obtain ⟨u, m1, m2, m3⟩ := k3 r y hk
      rw [Nat.zero_add] at m1
      refine ⟨u, ?_, m2, m3⟩
      rw [hrl, Array.getElem?_append_left (by simp; omega)]
      exact m1
    · rw [List.getElem?_append_right (by omega)] at hk
      simp only [tl, List.getElem?_map, Option.map_eq_some_iff] at hk
      obtain ⟨u, m1, rfl⟩ := hk
      rw [hhl] at m1
      refine ⟨u, ?_, hz0 u (by simpa using List.mem_of_getElem? m1), .c u⟩
      rw [hrl, Array.getElem?_append_right (by simp; omega)]
      simp only [List.size_toArray, k1]
      rw [← Array.getElem?_toList]
      exact m1
  have hrs : row.size = ((ys.drop o1).take (l1 * e.sz) ++ tl).length := by
    rw [hrl, List.length_append, hhl, Array.size_append]
    simp [tl, k1]
  have hN2 := h w.heap.size cap tl (by omega) hhl (by rw [htl, ← Nat.add_mul]; congr 1; omega)
  rw [hcap]
  refine hK _ _ (hN2 _ _ ⟨A, SatA.put ?_ (blt_lt hd) (.c _)⟩)
  exact hA'.step (.push _ _ _) (fun _ _ h => h) (hA'.hp.push_box (us := row) (t := et) hA'.keep.size hrs hrc)
theorem run_apart {tS tR : TypeId} {va b off l cb lA cA oA : Nat} {csA us : Array Value} {tA tB : TypeId} {fz : Nat × Nat} (hU : P.underlying tS = some (.slice et)) (hT : tySz P et = some (g, m, B)) (ha : w.heap[va]? = some (.cells csA tA fz)) (hb : w.heap[b]? = some (.cells us tB (0, 0))) (hne : va ≠ b) (hkA : csA.size ≠ 0) (hkB : us.size ≠ 0) :
    (Extern.SlicesOverlaps.overlaps #[tS, tS] #[tR] #[sv va oA lA cA, sv b off l cb]).run P w = .ok (.bool false) w := by
  have hsa : w.shape? va = some (tA, csA.size) := by simp [World.shape?, ha]
  have hsb : w.shape? b = some (tB, us.size) := by simp [World.shape?, hb]
  have hfb : ∀ q, w.frozen? ⟨b, q, none⟩ = false := fun q => by simp [World.frozen?, hb]
  have hnb : (va != b) = true := by simpa using hne
  have hnb' : (va == b) = false := by simpa using hne
  obtain ⟨nA, hnA⟩ : ∃ nA, csA.size = nA + 1 := ⟨csA.size - 1, by omega⟩
  rw [hnA] at hsa
  obtain ⟨nB, hnB⟩ : ∃ nB, us.size = nB + 1 := ⟨us.size - 1, by omega⟩
  rw [hnB] at hsb
  change Sem.run P (α := Value) (do
    let some t := (#[tS, tS] : Array TypeId)[0]? | stuck "slices.overlaps: no parameter types"
    let .slice elem ← underlying t | stuck "slices.overlaps: slice type expected"
    let size ← sizeOf elem
    match (some ⟨va, oA, none⟩ : Option Addr), (some ⟨b, off, none⟩ : Option Addr) with
    | some a, some b =>
      if lA = 0 ∨ l = 0 ∨ size = 0 then pure (Value.bool false)
      else if a.block != b.block && (← frozen a) && (← frozen b) then unsupported .addressObserved
      else do
        if a.block != b.block then do
          noView a; noView b
          if ← mayBeOne a b then return Value.bool ((← choose (.extern "sameAddr.stringBytes" 2)) == 1)
        pure (Value.bool (a.block == b.block && a.off < b.off + l * size && b.off < a.off + lA * size))
    | _, _ => pure (Value.bool false)) w = _
  by_cases h0 : lA = 0 ∨ l = 0 ∨ m = 0
  · simp [run_underlying _ hU, run_sizeOf hT, h0]
  · cases hf1 : w.frozen? ⟨va, oA, none⟩ <;> cases hf2 : w.frozen? ⟨va, nA + 1, none⟩ <;>
      simp [run_underlying _ hU, run_sizeOf hT, h0, hnb, hnb', frozen, noView, viewAt, mayBeOne, stringish, shape, Sem.run, hsa, hsb, hf1, hf2, hfb]
theorem QW.apart (i : Nat) {f : FuncId} {tS tR : TypeId} {tys : Array TypeId} {b off l cb : Nat} {ys : List AV} {fr clip : Bool} {e : ETy} {xs : List (List AV)} (hU : P.underlying tS = some (.slice et)) (hT : tySz P et = some (g, m, B))
    (hf : ∀ u v w, (callFunc f #[u, v]).run P w = ((Extern.SlicesOverlaps.overlaps #[tS, tS] #[tR] #[u, v]).run P w).andThen fun v w' => .ok (.value v) w')
    (hx : Ev E ⟨n, env, own, F, D⟩ x (.sl fr clip e xs)) (hy : Ev E ⟨n, env, own, F, D⟩ y (.c (sv b off l cb))) (ho : own[i]? = some (.box b ys)) (hn : xs.flatten ≠ []) (hn2 : ys ≠ []) :
    QW P E ⟨n, env, own, F, D⟩ ⟨dd, .call ⟨.value (.func f), #[x, y], tys⟩, ty, pos, af, gd⟩ (.c (.bool false)) := .pure fun A a w hs => by
  refine ⟨.bool false, ?_, .c _⟩
  obtain ⟨ad, cap, hv, _, _, hc⟩ := (hx A a w hs).of_sl
  obtain ⟨us, tt, h1, h2, h3⟩ := (hs.hp.own _ (List.mem_of_getElem? ho) : (Own.box b ys).ok w A)
  rcases hc with rfl | ⟨va, oA, csA, tA, fz, rfl, hAb, hb, hxl, _, hc⟩
  · exact absurd rfl hn
  have hne : va ≠ b := fun he => by
    subst he
    exact (hs.hp.fp va (fps_mem (List.mem_of_getElem? ho) (by simp [Own.fp]))).2.2 fr hAb
  have hkA : csA.size ≠ 0 := fun h0 => by
    obtain ⟨y0, hy0⟩ : ∃ y0, xs.flatten[0]? = some y0 := by
      cases hxf : xs.flatten with
      | nil => exact absurd hxf hn
      | cons a0 r => exact ⟨a0, rfl⟩
    obtain ⟨u, m1, _⟩ := hc 0 y0 hy0
    have := (Array.getElem?_eq_some_iff.1 m1).1
    omega
  have hkB : us.size ≠ 0 := by rw [h2]; exact fun h0 => hn2 (List.length_eq_zero_iff.1 h0)
  have hr := run_apart (P := P) (tR := tR) (oA := oA) (lA := xs.length) (cA := cap) (off := off) (l := l) (cb := cb) hU hT hb h1 hne hkA hkB
  have := hf (sv va oA xs.length cap) (sv b off l cb) w
  rw [hr] at this
  simp only [execOp, resolve, Act.eval, Deferred.ofValue, Sem.run_bind, Sem.run_pure, Result.andThen_ok, invoke]
  simpa [hv, hy.eq hs, Result.andThen] using this
theorem JL.cutAny (i : Nat) {v : Value} {e : ETy} {xs : List (List AV)} {l : Nat} {j : Int} (hU : P.underlying t = some (.slice et)) (hT : tySz P et = some (g, m, B)) (hx : Ev E ⟨n, env, own, F, D⟩ x (.c v)) (ho : own[i]? = some (.arr v e xs)) (hlo : Ev E ⟨n, env, own, F, D⟩ lo (.c (.int k j))) (hj : j = (l : Int)) (hl : l ≤ xs.length) (hd : Nat.blt d n = true)
    (h : ∀ u, JL P E ops rest ⟨n, (d, .c u) :: env, own, F, D⟩ Q) : JL P E ops (⟨some d, .slice t x (some lo) none none, ty, pos, af, none⟩ :: rest) ⟨n, env, own, F, D⟩ Q := fun a w ⟨A, hA⟩ => by
  refine wpListIn_plain rfl fun K hK => ?_
  refine wpR (by intro c h; cases h) ?_
  unfold Oper.wp
  have hv : ∃ ad cap, v = .slice ad xs.length cap ∧ xs.length ≤ cap := by
    rcases hA.arr i ho with ⟨a0, hv, hx0⟩ | ⟨b, cap, us, t', hv, _, hle, _⟩
    · subst hx0; exact ⟨a0, 0, hv, Nat.le_refl _⟩
    · exact ⟨_, _, hv, hle⟩
  obtain ⟨ad, cap, rfl, hle⟩ := hv
  have := run_slice (P := P) (w := w) (ad := ad) (k := k) (k' := .i64) hU hT (some l) none (len := xs.length) (cap := cap) (by simpa using hl) (by simpa using hle)
  simp only [bnd, Option.getD_some, Option.getD_none] at this
  have he : (execOp a.eval ⟨some d, .slice t x (some lo) none none, ty, pos, af, none⟩).run P w = .ok (.value (.slice (if cap = l then ad else ad.map (·.add (l * m))) (xs.length - l) (cap - l))) w := by
    simp only [execOp, hx.eq hA, Option.map_some, Option.map_none, EvBnd hlo hj hA, Sem.run_bind, this, Result.andThen_ok, Sem.run_pure]
  rw [he, Oper.upon_value]
  exact hK _ _ (h _ _ _ ⟨A, hA.put (blt_lt hd) (.c _)⟩)
end
/-! ### plain: an element laid in, or taken out -/
theorem splice_take {α : Type} {base X ys : List α} {a m : Nat} (h : a ≤ X.length) (hm : ys.length = m) (L : List α) (hL : X.length + m ≤ L.length)
    (hg : ∀ k, k < X.length + m → L[k]? = if k < a then X[k]? else if k < a + m then ys[k - a]? else X[k - m]?) : L.take (X.length + m) = X.take a ++ ys ++ X.drop a := by
  apply List.ext_getElem?
  intro k
  rw [List.getElem?_take]
  by_cases hk : k < X.length + m
  · rw [if_pos hk, hg k hk]
    by_cases h1 : k < a
    · rw [if_pos h1, List.append_assoc, List.getElem?_append_left (by simp; omega), List.getElem?_take, if_pos h1]
    · rw [if_neg h1]
      by_cases h2 : k < a + m
      · rw [if_pos h2, List.getElem?_append_left (by simp; omega), List.getElem?_append_right (by simp; omega), List.length_take, Nat.min_eq_left h]
      · rw [if_neg h2, List.getElem?_append_right (by simp; omega), List.getElem?_drop]
        congr 1
        simp
        omega
  · rw [if_neg hk, List.getElem?_eq_none]
    simp; omega
theorem ins_shift {α : Type} {X sp ys : List α} {a m : Nat} (h : a ≤ X.length) (hm : ys.length = m) (hl : X.length + m ≤ (X ++ sp).length) :
    (splice (splice (X ++ sp) (a + m) (((X ++ sp).drop a).take (X.length - a))) a ys).take (X.length + m) = X.take a ++ ys ++ X.drop a := by
  have hl1 : (((X ++ sp).drop a).take (X.length - a)).length = X.length - a := by simp; omega
  have hf1 : a + m + (((X ++ sp).drop a).take (X.length - a)).length ≤ (X ++ sp).length := by rw [hl1]; omega
  have hf2 : a + ys.length ≤ (splice (X ++ sp) (a + m) (((X ++ sp).drop a).take (X.length - a))).length := by rw [splice_length hf1]; omega
  refine splice_take (base := X) h hm _ (by rw [splice_length hf2, splice_length hf1]; omega) fun k hk => ?_
  rw [splice_get hf2, splice_get hf1, hl1, hm]
  by_cases h1 : k < a
  · rw [if_neg (by omega), if_neg (by omega), if_pos h1, List.getElem?_append_left (by omega)]
  · rw [if_neg h1]
    by_cases h2 : k < a + m
    · rw [if_pos ⟨by omega, h2⟩, if_pos h2]
    · rw [if_neg (by omega), if_neg h2, if_pos ⟨by omega, by omega⟩, List.getElem?_take, if_pos (by omega), List.getElem?_drop, List.getElem?_append_left (by omega)]
      congr 1; omega
theorem ins_grow {α : Type} {X sp tl ys : List α} {a m : Nat} (h : a ≤ X.length) (hm : ys.length = m) (hl : X.length + m ≤ a + tl.length) :
    (splice (splice (((X ++ sp).drop 0).take a ++ tl) a ys) (a + m) (((X ++ sp).drop a).take (X.length - a))).take (X.length + m) = X.take a ++ ys ++ X.drop a := by
  have hh : (((X ++ sp).drop 0).take a).length = a := by simp; omega
  have hl1 : (((X ++ sp).drop a).take (X.length - a)).length = X.length - a := by simp; omega
  have hbl : (((X ++ sp).drop 0).take a ++ tl).length = a + tl.length := by rw [List.length_append, hh]
  have hf1 : a + ys.length ≤ (((X ++ sp).drop 0).take a ++ tl).length := by rw [hbl]; omega
  have hf2 : a + m + (((X ++ sp).drop a).take (X.length - a)).length ≤ (splice (((X ++ sp).drop 0).take a ++ tl) a ys).length := by rw [splice_length hf1, hl1, hbl]; omega
  refine splice_take (base := X) h hm _ (by rw [splice_length hf2, splice_length hf1, hbl]; omega) fun k hk => ?_
  rw [splice_get hf2, splice_get hf1, hl1, hm]
  by_cases h1 : k < a
  · rw [if_neg (by omega), if_neg (by omega), if_pos h1, List.getElem?_append_left (by omega), List.getElem?_take, if_pos h1, List.drop_zero, List.getElem?_append_left (by omega)]
  · rw [if_neg h1]
    by_cases h2 : k < a + m
    · rw [if_neg (by omega), if_pos ⟨by omega, h2⟩, if_pos h2]
    · rw [if_neg h2, if_pos ⟨by omega, by omega⟩, List.getElem?_take, if_pos (by omega), List.getElem?_drop, List.getElem?_append_left (by omega)]
      congr 1; omega
theorem ins_flat {α : Type} {sz : Nat} {xs : List (List α)} {ys : List α} {i : Nat} (hs : ∀ x ∈ xs, x.length = sz) : (xs.take i ++ [ys] ++ xs.drop i).flatten = xs.flatten.take (i * sz) ++ ys ++ xs.flatten.drop (i * sz) := by
  rw [List.flatten_append, List.flatten_append, flatten_take xs hs, flatten_drop xs hs]
  simp
theorem ins_flen {α : Type} {sz : Nat} {xs : List (List α)} {ys : List α} {i : Nat} (hs : ∀ x ∈ xs, x.length = sz) (hy : ys.length = sz) : (xs.take i ++ [ys] ++ xs.drop i).flatten.length = xs.flatten.length + sz := by
  rw [ins_flat hs, List.length_append, List.length_append, List.length_take, List.length_drop, hy]
  omega
theorem ins_len {α : Type} {xs : List (List α)} {ys : List α} {i : Nat} (hi : i ≤ xs.length) : (xs.take i ++ [ys] ++ xs.drop i).length = xs.length + 1 := by simp; omega
theorem ins_sz {α : Type} {sz : Nat} {xs : List (List α)} {ys : List α} {i : Nat} (hs : ∀ x ∈ xs, x.length = sz) (hy : ys.length = sz) : ∀ x ∈ xs.take i ++ [ys] ++ xs.drop i, x.length = sz := by
  intro x hx
  simp only [List.mem_append, List.mem_singleton] at hx
  rcases hx with (hx | rfl) | hx
  · exact hs x (List.mem_of_mem_take hx)
  · exact hy
  · exact hs x (List.mem_of_mem_drop hx)
end Go.Proofs.YtmccnmahegbmpaaGreat.J

/- Fields of structs that are values, elements of arrays that are values. -/
namespace Go.Proofs.YtmccnmahegbmpaaGreat.J
open Go Go.RowKit
section
variable {P : Program} {E : Ent} {st : St} {t t' et ty : TypeId} {pos : String} {af : Array Edge} {dd : Option Tmp} {gd : Option (Nat × Bool)} {x y : Operand} {w : World} {n B : Nat}
theorem run_partA {cs : Array Value} {off : Nat} (hT : tySz P t' = some (true, n, B)) : (part t' cs off).run P w = .ok (.agg (cs.extract off (off + n))) w := by
  simp only [part, Sem.run_bind, run_isAgg hT, Result.andThen_ok, if_true, run_sizeOf hT, Sem.run_pure]
theorem Rd.part {A : Foot} {vs : Array Value} {ys : List AV} {off : Nat} (hn : vs.size = ys.length) (h : Cells w A vs 0 ys) (hle : off + n ≤ ys.length) : Rd w A (.agg (vs.extract off (off + n))) (.agg ((ys.drop off).take n)) := by
  refine .mk_agg (by simp; omega) fun k y hk => ?_
  rw [List.getElem?_take] at hk
  split at hk
  · rename_i hlt
    rw [List.getElem?_drop] at hk
    obtain ⟨u, h1, h0, h2⟩ := h _ y hk
    rw [Nat.zero_add] at h1 ⊢
    exact ⟨u, by rw [Array.getElem?_extract, if_pos (by omega)]; exact h1, h0, h2⟩
  · cases hk
theorem QW.indexA {ys zs : List AV} {ln m : Nat} {k : IntKind} {i : Int} (hU : P.underlying t = some (.array ln et)) (hT : tySz P et = some (true, n, B)) (h : Ev E st x (.agg ys)) (hi : Ev E st y (.c (.int k i))) (him : i = (m : Int)) (hm : m < ln) (hz : (ys.drop (m * n)).take n = zs) (hl : zs.length = n) (h0 : Nat.blt 0 n = true := by rfl) :
    QW P E st ⟨dd, .index t x y, ty, pos, af, gd⟩ (.agg zs) := .pure fun A a w hs => by
  obtain ⟨vs, hv, hn, hc⟩ := (h A a w hs).of_agg
  subst him hz
  have hlt : (m : Int) < (ln : Int) := by omega
  have hp := blt_lt h0
  refine ⟨_, by simp [execOp, Instr.index, asIntOf, asInt, hi.eq hs, run_underlying _ hU, hv, run_sizeOf hT, run_partA hT, hm], Rd.part hn hc ?_⟩
  rw [List.length_take, List.length_drop] at hl; omega
end
/-! ### appends onto a slice that is read alone and has no spare places, or onto an own array -/
section
variable {P : Program} {E : Ent} {Q : Exit → St → Prop} {n : Nat} {env : List (Nat × AV)} {own : List Own} {F : List (Value × AV)} {D : List Deferred} {ops : Array Oper} {rest : List Oper} {c : Code}
variable {A : Foot} {a : Act} {w w' : World} {t tx et ty : TypeId} {pos : String} {af : Array Edge} {d : Nat} {dd : Option Tmp} {gd : Option (Nat × Bool)} {s x : Operand}
end
section
variable {P : Program} {E : Ent} {st : St} {ty : TypeId} {pos : String} {af : Array Edge} {dd : Option Tmp} {gd : Option (Nat × Bool)} {x y z : Operand}
end
end Go.Proofs.YtmccnmahegbmpaaGreat.J

/- Where two ways meet: what holds of both is told, and the rest is walked once. -/
namespace Go.Proofs.YtmccnmahegbmpaaGreat.J
open Go Go.RowKit
section
variable {P : Program} {E : Ent} {Q : Exit → St → Prop} {n : Nat} {env : List (Nat × AV)} {own : List Own} {F : List (Value × AV)} {D : List Deferred}
theorem J.cutK {ι : Type} {x y : Code} (ks : List Nat) (ch : ι → List (Nat × AV)) (ow : ι → List Own → List Own) (p : ι → Prop)
    (h : J P E x ⟨n, env, own, F, D⟩ (thenQ (fun s => ∃ j, p j ∧ Wk s ⟨n, ch j ++ pickEnv ks env, ow j own, F, D⟩) Q))
    (k : ∀ i, p i → J P E y ⟨n, ch i ++ pickEnv ks env, ow i own, F, D⟩ Q) : J P E (.seq x y) ⟨n, env, own, F, D⟩ Q :=
  J.seq (h.mono fun e s hq => by
    cases e <;> first | exact hq | skip
    obtain ⟨j, hj, hw⟩ := hq
    exact J.weak hw (k j hj))
end
section
variable {P : Program} {E : Ent} {st : St} {t ty : TypeId} {pos : String} {af : Array Edge} {dd : Option Tmp} {gd : Option (Nat × Bool)}
theorem QW.buildA {sz : Nat} {zc : List Value} {idx : List Nat} {l : List Operand} {zs ys : List AV} {parts : Array (Nat × Operand)} (hP : arrOf P t = some sz) (hz : zeroCells P t = some zc) (hz1 : zc.all (·.oneCell') = true)
    (hl : EvL E st l zs) (hparts : parts = (idx.zip l).toArray) (hp : zs.all AV.plain = true) (hi : idx.length = l.length) (hf : fillA (fun i => some (i * sz, sz)) (zc.map AV.c) (idx.zip (zs.map AV.cellsOf)) = some ys) :
    QW P E st ⟨dd, .build t parts, ty, pos, af, gd⟩ (.agg ys) := .pure fun A a w hs => by
  obtain ⟨ti, zv, h1, h2, h3⟩ := zero_get hz
  obtain ⟨cs', r1, r2, r3⟩ := run_fill (fun i => some (i * sz, sz)) (PartsR.of hs hl hp hi) (cs := zv.cells) (ys := zc.map AV.c) (by rw [← Array.length_toList, h3, List.length_map]) (by
    have := Cells.const (w := w) (A := A) hz1
    rw [← h3] at this ⊢
    rwa [Array.toArray_toList] at this) hf
  refine ⟨.agg cs', ?_, .mk_agg r2 r3⟩
  have hb : P.built t ((parts.map fun (i, x) => (i, a.eval x)).toList) = some cs' := by
    unfold Program.built
    unfold arrOf at hP
    cases hu : P.underlying t with
    | none => simp [hu] at hP
    | some td =>
      cases td <;> try (simp [hu] at hP; done)
      simp only [hu] at hP
      rw [Option.map_eq_some_iff] at hP
      obtain ⟨i2, g1, rfl⟩ := hP
      simp only [h1, h2, g1]
      rw [← r1, hparts]
      simp
  simp only [execOp, Sem.run_bind, run_build w t _ _ hb, Result.andThen_ok, Sem.run_pure]
theorem fill_two {z0 z1 a b : List AV} {m : Nat} (h0 : z0.length = m) (h1 : z1.length = m) (ha : a.length = m) (hb : b.length = m) : fillA (fun i => some (i * m, m)) (z0 ++ z1) [(0, a), (1, b)] = some (a ++ b) := by
  have e1 : splice (z0 ++ z1) 0 a = a ++ z1 := by
    unfold splice
    rw [List.take_zero, List.nil_append, Nat.zero_add, ha, ← h0, List.drop_left]
  have e2 : splice (a ++ z1) m b = a ++ b := by
    unfold splice
    rw [← ha, List.take_left, List.drop_eq_nil_of_le (by simp; omega), List.append_nil]
  have b1 : Nat.ble m (m + m) = true := Nat.ble_eq_true_of_le (by omega)
  have b2 : Nat.ble (m + m) (m + m) = true := Nat.ble_eq_true_of_le (by omega)
  simp [fillA, ha, hb, h0, h1, e1, e2, b1, b2]
end
end Go.Proofs.YtmccnmahegbmpaaGreat.J

/- Regions that draw their order, part by part: single operations that all later ones wait for, and groups of quiet ones. -/
namespace Go.Proofs.YtmccnmahegbmpaaGreat.J
open Go Go.RowKit
section
variable {P : Program} {E : Ent} {Q : Exit → St → Prop} {n : Nat} {env : List (Nat × AV)} {own : List Own} {F : List (Value × AV)} {D : List Deferred} {ops : Array Oper} {st : St}
theorem Oper.wpIn_monoQ {Fn : Fence} {m : Nat} {o : Oper} {a : Act} {w : World} {K : Act → World → Prop} {Q Q' : Exit → Act → World → Prop} (hp : ∀ ch a w, Q (.panic ch) a w → Q' (.panic ch) a w) (hl : LetsOut Q → LetsOut Q')
    (hh : o.wpIn Fn m P a w K Q) : o.wpIn Fn m P a w K Q' := by
  unfold Oper.wpIn at *
  refine ⟨hh.1, ?_⟩
  have hh := hh.2
  generalize (o.semAt Fn.round a.eval).run P w = r at *
  cases r with
  | ok x w' =>
    cases x <;> simp only [Oper.uponIn] at hh ⊢ <;>
      first
        | exact hh
        | exact ⟨hh.1, CallsIn.mono hh.2 (fun e w'' he => by cases e <;> first | exact he | exact hp _ _ _ he | exact hl he)⟩
        | exact ⟨hh.1, RoundIn.mono hh.2 (fun e w'' he => by cases e <;> first | exact he | exact hp _ _ _ he | exact hl he)⟩
  | halt x w' => cases x <;> simp only [Oper.uponIn] at hh ⊢ <;> first | exact hh | exact hp _ _ _ hh
theorem lift_q {K : St → Prop} {e : Exit} {a : Act} {w : World} (he : e ≠ .normal) (h : lift E (thenQ K Q) e a w) : lift E Q e a w := by
  obtain ⟨s, h1, h2⟩ := h
  refine ⟨s, ?_, h2⟩
  cases e <;> first | exact h1 | exact absurd rfl he
end
end Go.Proofs.YtmccnmahegbmpaaGreat.J

/- Regions that draw their order: quiet operations and allocations float until one that waits for them; the others come one by one. -/
namespace Go.Proofs.YtmccnmahegbmpaaGreat.J
open Go Go.RowKit
structure Flt where
  i : Nat
  d : Nat
  v : AV ⊕ List AV
  fre : Bool
  O : Option (Nat × Own) := none
def Flt.ex (L : Array Bool) (bs : Nat → Nat) (φ : Flt) : List Own := match φ.v with
  | .inl _ => []
  | .inr z => if L.getD φ.i false = true then [.box (bs φ.i) z] else []
def exF (L : Array Bool) (bs : Nat → Nat) (Φ : List Flt) : List Own := Φ.flatMap (Flt.ex L bs)
def Flt.bx (bs : Nat → Nat) (φ : Flt) : List Own := match φ.v with
  | .inl _ => []
  | .inr z => [.box (bs φ.i) z]
def bxF (bs : Nat → Nat) : List Flt → List Own
  | [] => []
  | φ :: Φ => φ.bx bs ++ bxF bs Φ
def Flt.val (bs : Nat → Nat) (φ : Flt) : AV := match φ.v with
  | .inl x => x
  | .inr _ => .c (.pointer (some ⟨bs φ.i, 0, none⟩))
def vlF (bs : Nat → Nat) : List Flt → List (Nat × AV)
  | [] => []
  | φ :: Φ => (φ.d, φ.val bs) :: vlF bs Φ
def tkM : List Bool → List Flt → List Flt
  | true :: ms, φ :: Φ => φ :: tkM ms Φ
  | false :: ms, _ :: Φ => tkM ms Φ
  | _, _ => []
def lvM : List Bool → List Flt → List Flt
  | true :: ms, _ :: Φ => lvM ms Φ
  | false :: ms, φ :: Φ => φ :: lvM ms Φ
  | _, Φ => Φ
theorem tl_perm : ∀ (ms : List Bool) (Φ : List Flt), Φ.Perm (tkM ms Φ ++ lvM ms Φ)
  | [], Φ => by simp [tkM, lvM]
  | _ :: _, [] => by simp [tkM, lvM]
  | true :: ms, φ :: Φ => by simpa [tkM, lvM] using tl_perm ms Φ
  | false :: ms, φ :: Φ => by
    simp only [tkM, lvM]
    exact (List.Perm.cons φ (tl_perm ms Φ)).trans List.perm_middle.symm
def memB (i : Nat) (l : List Nat) : Bool := l.any (Nat.beq i)
theorem memB_iff {i : Nat} {l : List Nat} : memB i l = true ↔ i ∈ l := by
  simp only [memB, List.any_eq_true]
  exact ⟨fun ⟨x, h1, h2⟩ => Nat.eq_of_beq_eq_true h2 ▸ h1, fun h => ⟨i, h, by simp⟩⟩
def blkB (l : List Oper) (S Φ : List Nat) (i : Nat) : Bool := (List.range l.length).all fun j => memB j S || memB j Φ || Nat.beq j i || (match l[j]? with
  | some o => o.after.toList.any fun e => Region.binds .any e && !memB e.on S && !memB e.on Φ
  | none => true)
def lndB (l : List Oper) (o : Oper) : List Oper → List Nat → Bool
  | _, [] => true
  | os, i :: Φ => (depsOk o [i] || os.any fun o' => depsOk o' [i]) && lndB l o (match l[i]? with | some o' => o' :: os | none => os) Φ
section
variable {P : Program} {E : Ent} {Q : Exit → St → Prop} {n : Nat} {env : List (Nat × AV)} {own : List Own} {F : List (Value × AV)} {D : List Deferred} {ops : Array Oper}
def FOk (P : Program) (E : Ent) (ops : Array Oper) (n : Nat) (env : List (Nat × AV)) (own : List Own) (F : List (Value × AV)) (D : List Deferred) (Φ : List Flt) (φ : Flt) : Prop :=
  ∃ o, ops[φ.i]? = some o ∧ o.dst = some φ.d ∧ φ.d < n ∧ match φ.v with
    | .inr z => AllocOp P o φ.d z
    | .inl x => ∃ e : List (Nat × AV), (∀ s y, lk e s = some y → lk env s = some y ∨ ∃ ψ ∈ Φ, ψ.d = s ∧ ψ.v = .inl y ∧ depsOk o [ψ.i] = true) ∧
      (∀ k en, φ.O = some (k, en) → own[k]? = some en) ∧ ∀ own', (φ.fre = false → ∃ ex, own' = own ++ ex) → (∀ k en, φ.O = some (k, en) → own'[k]? = some en) → Step P E ops ⟨n, e, own', F, D⟩ o x
def okO (own : List Own) : List Flt → Prop
  | [] => True
  | φ :: Φ => (match φ.O with | some (k, en) => own[k]? = some en | none => True) ∧ okO own Φ
theorem okO_get {own : List Own} : ∀ {Φ : List Flt}, okO own Φ → ∀ φ ∈ Φ, ∀ k en, φ.O = some (k, en) → own[k]? = some en
  | ψ :: Φ, h, φ, hφ, k, en, he => by
    rcases List.mem_cons.1 hφ with rfl | hφ
    · have := h.1; rw [he] at this; exact this
    · exact okO_get h.2 φ hφ k en he
structure WfX (ops : Array Oper) (env : List (Nat × AV)) (S : List Nat) (Φ : List Flt) : Prop where
  nd : (Φ.map (·.i)).Nodup
  ndd : (Φ.map (·.d)).Nodup
  ns : ∀ φ ∈ Φ, φ.i ∉ S
  ne : ∀ φ ∈ Φ, lk env φ.d = none
structure Cfg (E : Ent) (ops : Array Oper) (n : Nat) (env : List (Nat × AV)) (own : List Own) (F : List (Value × AV)) (D : List Deferred) (S : List Nat) (Φ : List Flt) (L : Array Bool) (bs : Nat → Nat) (A : Foot) (a : Act) (w : World) : Prop where
  size : L.size = ops.size
  yes : ∀ i ∈ S, L.getD i false = true
  no : ∀ i, i ∉ S → (∀ φ ∈ Φ, φ.i ≠ i) → L.getD i false = false
  clo : ∀ i o, ops[i]? = some o → L.getD i false = true → ∀ e ∈ o.after, Region.binds .any e = true → L.getD e.on false = true
  sat : SatA E A ⟨n, env, own ++ exF L bs Φ, F, D⟩ a w
  val : ∀ φ ∈ Φ, L.getD φ.i false = true → Rd w A (a.tmps.getD φ.d undef) (φ.val bs)
def JX (P : Program) (E : Ent) (ops : Array Oper) (S : List Nat) (Φ : List Flt) (st : St) (Q : Exit → St → Prop) : Prop :=
  WfX ops st.env S Φ → (∀ φ ∈ Φ, FOk P E ops st.n st.env st.own st.facts st.dfs Φ φ) →
    ∀ fuel L bs A a w, cnt ops.size (fun i => !L.getD i true) ≤ fuel → Cfg E ops st.n st.env st.own st.facts st.dfs S Φ L bs A a w → wpAnyIn (fen E.rd) 0 P .any ops (lift E Q) fuel L a w
theorem exF_perm {L : Array Bool} {bs : Nat → Nat} {Φ Φ' : List Flt} (h : Φ.Perm Φ') : (exF L bs Φ).Perm (exF L bs Φ') := h.flatMap_right _
theorem exF_append (L : Array Bool) (bs : Nat → Nat) (Φ Φ' : List Flt) : exF L bs (Φ ++ Φ') = exF L bs Φ ++ exF L bs Φ' := by simp [exF]
theorem exF_done {L : Array Bool} {bs : Nat → Nat} : ∀ {Φ : List Flt}, (∀ φ ∈ Φ, L.getD φ.i false = true) → exF L bs Φ = bxF bs Φ
  | [], _ => rfl
  | φ :: Φ, h => by
    have h1 := h φ (by simp)
    have h2 := exF_done (L := L) (bs := bs) (Φ := Φ) fun ψ hψ => h ψ (by simp [hψ])
    unfold exF at h2 ⊢
    rw [List.flatMap_cons, h2, bxF]
    congr 1
    unfold Flt.ex Flt.bx
    split
    · rename_i heq; simp [heq]
    · rename_i z heq; simp [heq, h1]
theorem exF_congr {L L' : Array Bool} {bs bs' : Nat → Nat} : ∀ {Φ : List Flt}, (∀ φ ∈ Φ, L'.getD φ.i false = L.getD φ.i false ∧ bs' φ.i = bs φ.i) → exF L' bs' Φ = exF L bs Φ
  | [], _ => rfl
  | φ :: Φ, h => by
    have h1 := h φ (by simp)
    have h2 := exF_congr (L := L) (L' := L') (bs := bs) (bs' := bs') (Φ := Φ) fun ψ hψ => h ψ (by simp [hψ])
    unfold exF at h2 ⊢
    rw [List.flatMap_cons, List.flatMap_cons, h2]
    congr 1
    unfold Flt.ex
    rw [h1.1, h1.2]
theorem exF_ext {L L' : Array Bool} {bs : Nat → Nat} : ∀ {Φ : List Flt}, (∀ φ ∈ Φ, φ.ex L' bs = φ.ex L bs) → exF L' bs Φ = exF L bs Φ
  | [], _ => rfl
  | φ :: Φ, h => by
    have h2 := exF_ext (L := L) (L' := L') (bs := bs) (Φ := Φ) fun ψ hψ => h ψ (by simp [hψ])
    unfold exF at h2 ⊢
    rw [List.flatMap_cons, List.flatMap_cons, h2, h φ (by simp)]
theorem lk_vlF {bs : Nat → Nat} {env : List (Nat × AV)} : ∀ {Φ : List Flt} {s : Nat} {x : AV}, lk (vlF bs Φ ++ env) s = some x → (∃ φ ∈ Φ, φ.d = s ∧ φ.val bs = x) ∨ lk env s = some x
  | [], _, _, h => .inr h
  | φ :: Φ, s, x, h => by
    rcases lk_cons h with ⟨rfl, rfl⟩ | ⟨_, h⟩
    · exact .inl ⟨φ, by simp, rfl, rfl⟩
    · rcases lk_vlF h with ⟨ψ, h1, h2⟩ | h
      · exact .inl ⟨ψ, by simp [h1], h2⟩
      · exact .inr h
theorem lk_vlF_mem {bs : Nat → Nat} {env : List (Nat × AV)} : ∀ {Φ : List Flt} {φ : Flt}, (Φ.map (·.d)).Nodup → φ ∈ Φ → lk (vlF bs Φ ++ env) φ.d = some (φ.val bs)
  | ψ :: Φ, φ, hn, h => by
    rw [List.map_cons, List.nodup_cons] at hn
    rw [vlF, List.cons_append, lk_hd]
    rcases List.mem_cons.1 h with rfl | h
    · simp
    · have hne : Nat.beq ψ.d φ.d = false := by
        cases hb : Nat.beq ψ.d φ.d with
        | false => rfl
        | true => exact absurd (List.mem_map.2 ⟨φ, h, (Nat.eq_of_beq_eq_true hb).symm⟩) hn.1
      rw [hne]
      exact lk_vlF_mem hn.2 h
theorem lk_vlF_none {bs : Nat → Nat} {env : List (Nat × AV)} : ∀ {Φ : List Flt} {s : Nat}, (∀ φ ∈ Φ, φ.d ≠ s) → lk (vlF bs Φ ++ env) s = lk env s
  | [], _, _ => rfl
  | ψ :: Φ, s, h => by
    rw [vlF, List.cons_append, lk_hd]
    have hne : Nat.beq ψ.d s = false := by
      cases hb : Nat.beq ψ.d s with
      | false => rfl
      | true => exact absurd (Nat.eq_of_beq_eq_true hb) (h ψ (by simp))
    rw [hne]
    exact lk_vlF_none fun φ hφ => h φ (by simp [hφ])
theorem Cfg.run {S : List Nat} {Φ : List Flt} {L : Array Bool} {bs : Nat → Nat} {A : Foot} {a : Act} {w : World} (hw : WfX ops env S Φ) (hF : ∀ φ ∈ Φ, FOk P E ops n env own F D Φ φ) (hc : Cfg E ops n env own F D S Φ L bs A a w) {φ : Flt} (hφ : φ ∈ Φ) (hun : L.getD φ.i false = false) (hlt : φ.i < ops.size)
    (hdeps : ∀ o, ops[φ.i]? = some o → ∀ e ∈ o.after, Region.binds .any e = true → L.getD e.on false = true) {fuel : Nat} {Qx : Exit → Act → World → Prop}
    (hk : ∀ bs' A' a' w', Cfg E ops n env own F D S Φ (L.setIfInBounds φ.i true) bs' A' a' w' → wpAnyIn (fen E.rd) 0 P .any ops Qx fuel (L.setIfInBounds φ.i true) a' w') :
    wpOpIn (fen E.rd) 0 P ops Qx φ.i (wpAnyIn (fen E.rd) 0 P .any ops Qx fuel (L.setIfInBounds φ.i true)) a w := by
  obtain ⟨o, ho, hd, hdn, hm⟩ := hF φ hφ
  have hLs : φ.i < L.size := by rw [hc.size]; exact hlt
  have hset : ∀ j, (L.setIfInBounds φ.i true).getD j false = if j = φ.i then true else L.getD j false := fun j => getD_set _ _ _ hLs _
  have hyes : ∀ i ∈ S, (L.setIfInBounds φ.i true).getD i false = true := fun i hi => by rw [hset]; split; rfl; exact hc.yes i hi
  have hno : ∀ i, i ∉ S → (∀ ψ ∈ Φ, ψ.i ≠ i) → (L.setIfInBounds φ.i true).getD i false = false := fun i h1 h2 => by rw [hset, if_neg (fun h => h2 φ hφ h.symm)]; exact hc.no i h1 h2
  have hclo : ∀ i o, ops[i]? = some o → (L.setIfInBounds φ.i true).getD i false = true → ∀ e ∈ o.after, Region.binds .any e = true → (L.setIfInBounds φ.i true).getD e.on false = true := fun i o' ho' hL e he hb => by
    rw [hset] at hL ⊢
    split
    · rfl
    · by_cases hi : i = φ.i
      · subst hi; exact hdeps o' ho' e he hb
      · rw [if_neg hi] at hL; exact hc.clo i o' ho' hL e he hb
  have hne : ∀ ψ ∈ Φ, ψ.i ≠ φ.i → φ.d ≠ ψ.d := fun ψ hψ hi hd' => by
    have := hw.ndd
    rw [List.nodup_iff_pairwise_ne, List.pairwise_map] at this
    obtain ⟨x, hx⟩ := List.getElem?_of_mem hφ
    obtain ⟨y, hy⟩ := List.getElem?_of_mem hψ
    by_cases hxy : x = y
    · subst hxy; rw [hx] at hy; cases hy; exact hi rfl
    · rw [List.pairwise_iff_getElem] at this
      obtain ⟨h1, h2⟩ := List.getElem?_eq_some_iff.1 hx
      obtain ⟨h3, h4⟩ := List.getElem?_eq_some_iff.1 hy
      rcases Nat.lt_or_gt_of_ne hxy with h | h
      · have := this x y h1 h3 h; rw [h2, h4] at this; exact this hd'
      · have := this y x h3 h1 h; rw [h2, h4] at this; exact this hd'.symm
  have huniq : ∀ ψ ∈ Φ, ψ.i = φ.i → ψ = φ := fun ψ hψ hi => by
    have := hw.nd
    rw [List.nodup_iff_pairwise_ne, List.pairwise_map, List.pairwise_iff_getElem] at this
    obtain ⟨x, hx⟩ := List.getElem?_of_mem hφ
    obtain ⟨y, hy⟩ := List.getElem?_of_mem hψ
    obtain ⟨h1, h2⟩ := List.getElem?_eq_some_iff.1 hx
    obtain ⟨h3, h4⟩ := List.getElem?_eq_some_iff.1 hy
    by_cases hxy : x = y
    · subst hxy; rw [hx] at hy; cases hy; rfl
    · rcases Nat.lt_or_gt_of_ne hxy with h | h
      · have := this x y h1 h3 h; rw [h2, h4] at this; exact absurd hi.symm this
      · have := this y x h3 h1 h; rw [h2, h4] at this; exact absurd hi this
  have hput : ∀ v s, φ.d ≠ s → (a.put o.dst v).tmps.getD s undef = a.tmps.getD s undef := fun v s h => by rw [hd]; exact put_getD_ne h
  unfold wpOpIn
  simp only [ho]
  cases hv : φ.v with
  | inl x =>
    rw [hv] at hm
    obtain ⟨e, he, hO, hs⟩ := hm
    have hexs : ∀ bs, exF (L.setIfInBounds φ.i true) bs Φ = exF L bs Φ := fun bs => by
      refine exF_ext fun ψ hψ => ?_
      unfold Flt.ex
      by_cases hi : ψ.i = φ.i
      · rw [huniq ψ hψ hi, hv]
      · rw [hset, if_neg hi]
    have hsat : SatA E A ⟨n, e, own ++ exF L bs Φ, F, D⟩ a w := ⟨hc.sat.size, hc.sat.defers, hc.sat.keep, hc.sat.hp, fun s y hl => by
      rcases he s y hl with h | ⟨ψ, hψ, rfl, hψv, hψd⟩
      · exact hc.sat.env s y h
      · obtain ⟨e', he', hb, hon⟩ := depsOk_get hψd (List.mem_singleton.2 rfl)
        have h1 := hdeps o ho e' he' hb
        rw [hon] at h1
        have := hc.val ψ hψ h1
        unfold Flt.val at this
        rw [hψv] at this
        exact this, hc.sat.facts⟩
    have h1 := hs _ (fun _ => ⟨_, rfl⟩) (fun k en hk => by
      have := hO k en hk
      rw [List.getElem?_append_left (List.getElem?_eq_some_iff.1 this).1]; exact this) A a w hsat (wpAnyIn (fen E.rd) 0 P .any ops Qx fuel (L.setIfInBounds φ.i true)) Qx fun v w' A' hf hs' hr => hk bs A' _ w'
      ⟨by simpa using hc.size, hyes, hno, hclo, by
        rw [hexs]
        exact ⟨by have := hs'.size; simp only [Act.put, hd, Array.size_setIfInBounds]; exact this, by rw [hd]; exact hs'.defers, hs'.keep, hs'.hp, fun s y hl => by
          rw [hput v s (fun h => by rw [← h, hw.ne φ hφ] at hl; cases hl)]
          exact hf _ _ (hc.sat.env s y hl), hs'.facts⟩, fun ψ hψ hL => by
        by_cases hi : ψ.i = φ.i
        · obtain rfl := huniq ψ hψ hi
          rw [hd, put_getD_same (by have := hs'.size; simp only at this; rw [this]; exact hdn)]
          unfold Flt.val
          rw [hv]
          exact hr
        · rw [hset, if_neg hi] at hL
          rw [hput v _ (hne ψ hψ hi)]
          exact hf _ _ (hc.val ψ hψ hL)⟩
    split
    · rename_i hw'; rw [if_pos hw'] at h1; exact h1
    · rename_i hw'; rw [if_neg hw'] at h1; exact ⟨fun _ _ => trivial, h1⟩
  | inr z =>
    rw [hv] at hm
    have hga := hm.guard
    rw [if_pos (by simp [Region.wanted, hga])]
    refine hm.run (E := E) hc.sat (wpAnyIn (fen E.rd) 0 P .any ops Qx fuel (L.setIfInBounds φ.i true)) fun b w' hf hs' => ?_
    have hperm : (exF (L.setIfInBounds φ.i true) (fun j => if j = φ.i then b else bs j) Φ).Perm (.box b z :: exF L bs Φ) := by
      obtain ⟨p, q, rfl⟩ := List.append_of_mem hφ
      have hother : ∀ ψ ∈ p ++ q, (L.setIfInBounds φ.i true).getD ψ.i false = L.getD ψ.i false ∧ (if ψ.i = φ.i then b else bs ψ.i) = bs ψ.i := fun ψ hψ => by
        have hne' : ψ.i ≠ φ.i := fun hi => by
          have := hw.nd
          rw [List.map_append, List.map_cons] at this
          have h2 := (List.perm_middle.nodup_iff).1 this
          rw [List.nodup_cons] at h2
          exact h2.1 (by rw [← List.map_append, ← hi]; exact List.mem_map.2 ⟨ψ, hψ, rfl⟩)
        exact ⟨by rw [hset, if_neg hne'], by rw [if_neg hne']⟩
      have h1 := exF_congr (L := L) (L' := L.setIfInBounds φ.i true) (bs := bs) (bs' := fun j => if j = φ.i then b else bs j) (Φ := p) fun ψ hψ => hother ψ (List.mem_append_left _ hψ)
      have h2 := exF_congr (L := L) (L' := L.setIfInBounds φ.i true) (bs := bs) (bs' := fun j => if j = φ.i then b else bs j) (Φ := q) fun ψ hψ => hother ψ (List.mem_append_right _ hψ)
      have e1 : ∀ (L : Array Bool) (bs : Nat → Nat), exF L bs (p ++ φ :: q) = exF L bs p ++ (φ.ex L bs ++ exF L bs q) := fun L bs => by simp [exF]
      rw [e1, e1, h1, h2]
      have e2 : φ.ex (L.setIfInBounds φ.i true) (fun j => if j = φ.i then b else bs j) = [.box b z] := by unfold Flt.ex; rw [hv]; simp only [hset, if_true]
      have e3 : φ.ex L bs = [] := by unfold Flt.ex; rw [hv]; simp [hun]
      rw [e2, e3, List.nil_append]
      exact List.perm_middle
    have hs' : SatA E A ⟨n, env, own ++ exF (L.setIfInBounds φ.i true) (fun j => if j = φ.i then b else bs j) Φ, F, D⟩ a w' := hs'.perm (List.perm_middle.symm.trans (List.Perm.append_left _ hperm.symm))
    refine hk (fun j => if j = φ.i then b else bs j) A _ w' ⟨by simpa using hc.size, hyes, hno, hclo, ⟨by have := hs'.size; simp only [Act.put, hd, Array.size_setIfInBounds]; exact this, by rw [hd]; exact hs'.defers, hs'.keep, hs'.hp, fun s y hl => ?_, hs'.facts⟩, fun ψ hψ hL => ?_⟩
    · rw [hput _ s (fun h => by rw [← h, hw.ne φ hφ] at hl; cases hl)]
      exact hf _ _ (hc.sat.env s y hl)
    · by_cases hi : ψ.i = φ.i
      · obtain rfl := huniq ψ hψ hi
        rw [hd, put_getD_same (by have := hs'.size; simp only at this; rw [this]; exact hdn)]
        unfold Flt.val
        rw [hv]
        simp only [if_true]
        exact .c _
      · rw [hset, if_neg hi] at hL
        rw [hput _ _ (hne ψ hψ hi)]
        have := hf _ _ (hc.val ψ hψ hL)
        unfold Flt.val at this ⊢
        split
        · rename_i x heq; rw [heq] at this; exact this
        · rename_i z' heq; rw [heq] at this; simp only [if_neg hi]; exact this
theorem lndB_done {L : Array Bool} (hclo : ∀ i o, ops[i]? = some o → L.getD i false = true → ∀ e ∈ o.after, Region.binds .any e = true → L.getD e.on false = true) {o : Oper} (hdeps : ∀ e ∈ o.after, Region.binds .any e = true → L.getD e.on false = true) :
    ∀ (Φ : List Nat) (os : List Oper), (∀ o' ∈ os, ∀ e ∈ o'.after, Region.binds .any e = true → L.getD e.on false = true) → lndB ops.toList o os Φ = true → ∀ i ∈ Φ, L.getD i false = true
  | [], _, _, _ => fun _ h => by cases h
  | j :: Φ, os, hos, h => by
    unfold lndB at h
    rw [Bool.and_eq_true, Bool.or_eq_true] at h
    have hj : L.getD j false = true := by
      rcases h.1 with h1 | h1
      · obtain ⟨e, he, hb, hon⟩ := depsOk_get h1 (List.mem_singleton.2 rfl)
        rw [← hon]; exact hdeps e he hb
      · obtain ⟨o', ho', h1⟩ := List.any_eq_true.1 h1
        obtain ⟨e, he, hb, hon⟩ := depsOk_get h1 (List.mem_singleton.2 rfl)
        rw [← hon]; exact hos o' ho' e he hb
    have hrec := lndB_done hclo hdeps Φ _ (fun o' ho' => by
      split at ho'
      · rename_i o2 ho2
        rcases List.mem_cons.1 ho' with rfl | ho'
        · exact hclo j _ (by simpa using ho2) hj
        · exact hos o' ho'
      · exact hos o' ho') h.2
    intro i hi
    rcases List.mem_cons.1 hi with rfl | hi
    · exact hj
    · exact hrec i hi
theorem cnt_run {L : Array Bool} {i fuel : Nat} (hL : L.size = ops.size) (hi : i < ops.size) (hun : L.getD i true = false) (hc : cnt ops.size (fun i => !L.getD i true) ≤ fuel + 1) : cnt ops.size (fun j => !(L.setIfInBounds i true).getD j true) ≤ fuel := by
  have := cnt_set (fun i => !L.getD i true) (fun j => !(L.setIfInBounds i true).getD j true) i (fun j hj => by rw [getD_set _ _ _ (by omega), if_neg hj]) (by simp [hun]) (by rw [getD_set _ _ _ (by omega), if_pos rfl]; rfl) ops.size
  rw [if_pos hi] at this
  omega
theorem wpListIn_monoN {o : Oper} {K K' : St → Prop} {a : Act} {w : World} (h : wpListIn (fen E.rd) 0 P ops (lift E (thenQ K Q)) [o] a w) (hk : ∀ a w, lift E (thenQ K Q) .normal a w → lift E (thenQ K' Q) .normal a w) : wpListIn (fen E.rd) 0 P ops (lift E (thenQ K' Q)) [o] a w := by
  have hx : ∀ e, e ≠ .normal → ∀ a w, lift E (thenQ K Q) e a w → lift E (thenQ K' Q) e a w := fun e he a w ⟨s, h1, h2⟩ => ⟨s, by cases e <;> first | exact h1 | exact absurd rfl he, h2⟩
  unfold wpListIn at h ⊢
  split
  · rename_i hw
    rw [if_pos hw] at h
    exact Oper.wpIn_monoQ (fun ch a w h => hx _ (by intro h; cases h) a w h) (fun h => by first | exact fun a w => hx _ (by intro h; cases h) a w (h a w) | (obtain ⟨a, w, h⟩ := h; exact ⟨a, w, hx _ (by intro h; cases h) a w h⟩)) (Oper.wpIn_mono (fun a w h => hk a w h) h)
  · rename_i hw
    rw [if_neg hw] at h
    exact ⟨h.1, hk _ _ h.2⟩
theorem JX.step {S : List Nat} {Φ : List Flt} (i : Nat) (ms : List Bool) {o : Oper} (ho : ops[i]? = some o) (hbk : backB 0 ops.toList = true) (hblk : blkB ops.toList S (Φ.map (·.i)) i = true) (hS : memB i S = false) (hΦ : memB i (Φ.map (·.i)) = false)
    (hlnd : lndB ops.toList o [] ((tkM ms Φ).map (·.i)) = true) (hfre : (lvM ms Φ).all (·.fre) = true)
    (h : ∀ bs pe ex, JL P E ops [o] ⟨n, vlF bs (tkM ms Φ) ++ (env ++ pe), own ++ (bxF bs (tkM ms Φ) ++ ex), F, D⟩ (thenQ (fun s => ∃ ev env' own', s.n = n ∧ s.env = env' ++ pe ∧ s.facts = F ∧ s.dfs = D ∧ env' = ev ++ (vlF bs (tkM ms Φ) ++ env) ∧ ev.all (fun p => o.dst == some p.1) = true ∧ Reown s.own (own' ++ ex) ∧
      (match o.dst with | some d => (Φ.all fun φ => !Nat.beq φ.d d) = true ∧ lk env d = none | none => True) ∧ okO own' (lvM ms Φ) ∧ JX P E ops (i :: ((tkM ms Φ).map (·.i) ++ S)) (lvM ms Φ) ⟨n, env', own', F, D⟩ Q) Q)) : JX P E ops S Φ ⟨n, env, own, F, D⟩ Q := fun hw hF => by
  have hlt : i < ops.size := (Array.getElem?_eq_some_iff.1 ho).1
  have hp := tl_perm ms Φ
  intro fuel
  induction fuel with
  | zero =>
    intro L bs A a w hc hcf
    exfalso
    have hi : L.getD i true = false := by
      rw [getD_same (by rw [hcf.size]; exact hlt)]
      exact hcf.no i (fun h => by rw [memB_iff.2 h] at hS; cases hS) fun φ hφ he => by rw [memB_iff.2 (List.mem_map.2 ⟨φ, hφ, he⟩)] at hΦ; cases hΦ
    have := List.countP_eq_zero.1 (Nat.le_zero.1 hc) i (by simpa using hlt)
    simp [hi] at this
  | succ fuel ih =>
    intro L bs A a w hc hcf
    have hundone : L.getD i false = false := hcf.no i (fun h => by rw [memB_iff.2 h] at hS; cases hS) fun φ hφ he => by rw [memB_iff.2 (List.mem_map.2 ⟨φ, hφ, he⟩)] at hΦ; cases hΦ
    refine ⟨fun hr => ?_, fun j hj => ?_⟩
    · exfalso
      have key : ∀ j, j < ops.size → L.getD j false = true := by
        intro j
        induction j using Nat.strongRecOn with
        | _ j ihj =>
          intro hjl
          cases hL : L.getD j false with
          | true => rfl
          | false =>
            exfalso
            obtain ⟨oj, hoj⟩ : ∃ oj, ops[j]? = some oj := ⟨_, Array.getElem?_eq_getElem hjl⟩
            have : j ∈ Region.ready .any ops L := ready_mem hcf.size hoj (by rw [getD_same (by rw [hcf.size]; exact hjl)]; exact hL) fun e he hb => by
              have hon := backB_lt hbk (i := j) (o := oj) (by simpa using hoj) e he hb
              exact ihj e.on (by omega) (by omega)
            rw [hr] at this
            cases this
      rw [key i hlt] at hundone; cases hundone
    · obtain ⟨hjl, oj, hoj, hunj, hdeps⟩ := mem_ready hj
      have hunj' : L.getD j false = false := by rw [← getD_same (by rw [hcf.size]; exact hjl)]; exact hunj
      by_cases hjΦ : ∃ φ ∈ Φ, φ.i = j
      · obtain ⟨φ, hφ, rfl⟩ := hjΦ
        exact hcf.run hw hF hφ hunj' hjl (fun o' ho' => by rw [hoj] at ho'; cases ho'; exact hdeps) fun bs' A' a' w' hcf' => ih _ bs' A' a' w' (cnt_run hcf.size hjl hunj hc) hcf'
      · have hji : j = i := by
          by_cases he : j = i
          · exact he
          · exfalso
            have h1 := List.all_eq_true.1 hblk j (by simpa using hjl)
            have h2 : memB j S = false := by
              cases hb : memB j S with
              | false => rfl
              | true => rw [hcf.yes j (memB_iff.1 hb)] at hunj'; cases hunj'
            have h3 : memB j (Φ.map (·.i)) = false := by
              cases hb : memB j (Φ.map (·.i)) with
              | false => rfl
              | true =>
                obtain ⟨φ, hφ, hφi⟩ := List.mem_map.1 (memB_iff.1 hb)
                exact absurd ⟨φ, hφ, hφi⟩ hjΦ
            have h4 : Nat.beq j i = false := by
              cases hb : Nat.beq j i with
              | false => rfl
              | true => exact absurd (Nat.eq_of_beq_eq_true hb) he
            have h5 : ops.toList[j]? = some oj := by simpa using hoj
            rw [h2, h3, h4, h5] at h1
            simp only [Bool.false_or] at h1
            obtain ⟨e, he, hb⟩ := List.any_eq_true.1 h1
            simp only [Bool.and_eq_true, Bool.not_eq_true'] at hb
            have h6 := hdeps e (by simpa using he) hb.1.1
            rw [hcf.no e.on (fun h => by rw [memB_iff.2 h] at hb; simp at hb) fun φ hφ hφi => by
              have := hb.2
              rw [memB_iff.2 (List.mem_map.2 ⟨φ, hφ, hφi⟩)] at this; cases this] at h6
            cases h6
        subst hji
        rw [ho] at hoj; cases hoj
        -- what it waits for has been done
        have hland : ∀ φ ∈ tkM ms Φ, L.getD φ.i false = true := fun φ hφ => lndB_done hcf.clo hdeps _ _ (fun o' h => by cases h) hlnd φ.i (List.mem_map.2 ⟨φ, hφ, rfl⟩)
        have hmem : ∀ φ, φ ∈ Φ ↔ φ ∈ tkM ms Φ ∨ φ ∈ lvM ms Φ := fun φ => by rw [hp.mem_iff, List.mem_append]
        obtain ⟨pe, hpe⟩ : ∃ pe, pe = vlF bs ((lvM ms Φ).filter fun φ => L.getD φ.i false) := ⟨_, rfl⟩
        have hndd : ((tkM ms Φ ++ lvM ms Φ).map (·.d)).Nodup := (hp.map _).nodup_iff.1 hw.ndd
        rw [List.map_append, List.nodup_append] at hndd
        have hnd : ((tkM ms Φ ++ lvM ms Φ).map (·.i)).Nodup := (hp.map _).nodup_iff.1 hw.nd
        rw [List.map_append, List.nodup_append] at hnd
        have hsat0 : SatA E A ⟨n, vlF bs (tkM ms Φ) ++ (env ++ pe), own ++ (bxF bs (tkM ms Φ) ++ exF L bs (lvM ms Φ)), F, D⟩ a w := by
          have h1 := hcf.sat.perm (List.Perm.append_left own ((exF_perm (L := L) (bs := bs) hp).trans (by rw [exF_append, exF_done hland])))
          refine ⟨h1.size, h1.defers, h1.keep, h1.hp, fun s x hl => ?_, h1.facts⟩
          rcases lk_vlF hl with ⟨φ, hφ, rfl, rfl⟩ | hl
          · exact hcf.val φ ((hmem φ).2 (.inl hφ)) (hland φ hφ)
          · rw [lk_append] at hl
            rcases hl with hl | ⟨_, hl⟩
            · exact hcf.sat.env s x hl
            · rw [hpe] at hl
              rcases lk_vlF (env := []) (by rw [List.append_nil]; exact hl) with ⟨φ, hφ, rfl, rfl⟩ | hl
              · rw [List.mem_filter] at hφ
                exact hcf.val φ ((hmem φ).2 (.inr hφ.1)) hφ.2
              · simp [lk] at hl
        have hl := h bs pe (exF L bs (lvM ms Φ)) a w ⟨A, hsat0⟩
        have hK : ∀ a' w', wpListIn (fen E.rd) 0 P ops (lift E (thenQ (fun s => ∃ ev env' own', s.n = n ∧ s.env = env' ++ pe ∧ s.facts = F ∧ s.dfs = D ∧ env' = ev ++ (vlF bs (tkM ms Φ) ++ env) ∧ ev.all (fun p => o.dst == some p.1) = true ∧ Reown s.own (own' ++ exF L bs (lvM ms Φ)) ∧
            (match o.dst with | some d => (Φ.all fun φ => !Nat.beq φ.d d) = true ∧ lk env d = none | none => True) ∧ okO own' (lvM ms Φ) ∧ JX P E ops (j :: ((tkM ms Φ).map (·.i) ++ S)) (lvM ms Φ) ⟨n, env', own', F, D⟩ Q) Q)) [] a' w' → wpAnyIn (fen E.rd) 0 P .any ops (lift E Q) fuel (L.setIfInBounds j true) a' w' := by
          rintro a' w' ⟨⟨n', env2, own2, F', D'⟩, ⟨ev, env', own', rfl, rfl, rfl, rfl, rfl, hev, hre, hdd, hoO, hX⟩, A', hsA⟩
          have hevd : ∀ s x, lk ev s = some x → o.dst = some s := fun s x hl' => by
            have := List.all_eq_true.1 hev _ (lk_mem _ _ _ hl')
            simpa using this
          have hlts : j < L.size := by rw [hcf.size]; exact hlt
          have hset : ∀ z, (L.setIfInBounds j true).getD z false = if z = j then true else L.getD z false := fun z => getD_set _ _ _ hlts _
          have hnot : ∀ φ ∈ Φ, φ.i ≠ j := fun φ hφ he => by rw [memB_iff.2 (List.mem_map.2 ⟨φ, hφ, he⟩)] at hΦ; cases hΦ
          have hevΦ : ∀ φ ∈ Φ, lk ev φ.d = none := fun φ hφ => by
            cases hle : lk ev φ.d with
            | none => rfl
            | some x =>
              have hd' := hevd _ _ hle
              rw [hd'] at hdd
              have := List.all_eq_true.1 hdd.1 φ hφ
              simp at this
          have hold : ∀ s y, lk env s = some y → lk (ev ++ (vlF bs (tkM ms Φ) ++ env)) s = some y := fun s y hl' => by
            rw [lk_append]
            have h1 : lk ev s = none := by
              cases hle : lk ev s with
              | none => rfl
              | some x =>
                have hd' := hevd _ _ hle
                rw [hd'] at hdd
                simp only at hdd
                rw [hdd.2] at hl'; cases hl'
            refine .inr ⟨h1, ?_⟩
            rw [lk_vlF_none fun φ hφ he => ?_]
            · exact hl'
            · rw [← he, hw.ne φ ((hmem φ).2 (.inl hφ))] at hl'; cases hl'
          have hexs : exF (L.setIfInBounds j true) bs (lvM ms Φ) = exF L bs (lvM ms Φ) := exF_congr fun φ hφ => ⟨by rw [hset, if_neg (hnot φ ((hmem φ).2 (.inr hφ)))], rfl⟩
          refine hX ⟨hnd.2.1, hndd.2.1, fun φ hφ hm => ?_, fun φ hφ => ?_⟩ (fun φ hφ => ?_) fuel _ bs A' a' w' (cnt_run hcf.size hlt hunj hc) ⟨by simpa using hcf.size, fun z hz => ?_, fun z hz1 hz2 => ?_, fun z oz hoz hLz e he hb => ?_, ?_, fun φ hφ hLφ => ?_⟩
          · rcases List.mem_cons.1 hm with hm | hm
            · exact hnot φ ((hmem φ).2 (.inr hφ)) hm
            · rcases List.mem_append.1 hm with hm | hm
              · exact hnd.2.2 _ hm _ (List.mem_map.2 ⟨φ, hφ, rfl⟩) rfl
              · exact hw.ns φ ((hmem φ).2 (.inr hφ)) hm
          · have hφΦ := (hmem φ).2 (.inr hφ)
            show lk (ev ++ (vlF bs (tkM ms Φ) ++ env)) φ.d = none
            cases hle : lk (ev ++ (vlF bs (tkM ms Φ) ++ env)) φ.d with
            | none => rfl
            | some y =>
              rw [lk_append] at hle
              rcases hle with hle | ⟨_, hle⟩
              · rw [hevΦ φ hφΦ] at hle; cases hle
              · rw [lk_vlF_none fun ψ hψ he => hndd.2.2 _ (List.mem_map.2 ⟨ψ, hψ, rfl⟩) _ (List.mem_map.2 ⟨φ, hφ, rfl⟩) he] at hle
                rw [hw.ne φ hφΦ] at hle; cases hle
          · obtain ⟨o', ho', hd', hdn', hm'⟩ := hF φ ((hmem φ).2 (.inr hφ))
            refine ⟨o', ho', hd', hdn', ?_⟩
            split at hm'
            · exact hm'
            · obtain ⟨e, he, _, hs⟩ := hm'
              refine ⟨e, fun s y hl' => ?_, okO_get hoO φ hφ, fun own2 _ hO2 => hs own2 (fun hf => ?_) hO2⟩
              · rcases he s y hl' with h1 | ⟨ψ, hψ, rfl, hψv, hψd⟩
                · exact .inl (hold s y h1)
                · rcases (hmem ψ).1 hψ with hψ' | hψ'
                  · left
                    rw [lk_append]
                    refine .inr ⟨hevΦ ψ hψ, ?_⟩
                    rw [lk_vlF_mem hndd.1 hψ']
                    unfold Flt.val
                    rw [hψv]
                  · exact .inr ⟨ψ, hψ', rfl, hψv, hψd⟩
              · have := List.all_eq_true.1 hfre φ hφ
                rw [hf] at this; cases this
          · rw [hset]
            split
            · rfl
            · rename_i hne
              rcases List.mem_cons.1 hz with hz | hz
              · exact absurd hz hne
              · rcases List.mem_append.1 hz with hz | hz
                · obtain ⟨φ, hφ, rfl⟩ := List.mem_map.1 hz
                  exact hland φ hφ
                · exact hcf.yes z hz
          · rw [hset, if_neg (fun h => hz1 (by simp [h]))]
            refine hcf.no z (fun h => hz1 (by simp [h])) fun φ hφ he => ?_
            rcases (hmem φ).1 hφ with h' | h'
            · exact hz1 (by rw [← he]; exact List.mem_cons_of_mem _ (List.mem_append_left _ (List.mem_map.2 ⟨φ, h', rfl⟩)))
            · exact hz2 φ h' he
          · rw [hset] at hLz ⊢
            split
            · rfl
            · by_cases hzj : z = j
              · subst hzj; rw [ho] at hoz; cases hoz; exact hdeps e he hb
              · rw [if_neg hzj] at hLz; exact hcf.clo z oz hoz hLz e he hb
          · rw [hexs]
            exact ⟨hsA.size, hsA.defers, hsA.keep, hsA.hp.reown hre, fun s y hl' => hsA.env s y (by rw [lk_append]; exact .inl hl'), hsA.facts⟩
          · rw [hset, if_neg (hnot φ ((hmem φ).2 (.inr hφ)))] at hLφ
            refine hsA.env φ.d (φ.val bs) ?_
            have hφΦ := (hmem φ).2 (.inr hφ)
            rw [lk_append]
            refine .inr ⟨?_, ?_⟩
            · show lk (ev ++ (vlF bs (tkM ms Φ) ++ env)) φ.d = none
              cases hle : lk (ev ++ (vlF bs (tkM ms Φ) ++ env)) φ.d with
              | none => rfl
              | some y =>
                rw [lk_append] at hle
                rcases hle with hle | ⟨_, hle⟩
                · rw [hevΦ φ hφΦ] at hle; cases hle
                · rw [lk_vlF_none fun ψ hψ he => hndd.2.2 _ (List.mem_map.2 ⟨ψ, hψ, rfl⟩) _ (List.mem_map.2 ⟨φ, hφ, rfl⟩) he] at hle
                  rw [hw.ne φ hφΦ] at hle; cases hle
            · rw [hpe]
              have := lk_vlF_mem (bs := bs) (env := []) (Φ := (lvM ms Φ).filter fun φ => L.getD φ.i false) (φ := φ) ((List.filter_sublist.map _).nodup hndd.2.1) (List.mem_filter.2 ⟨hφ, hLφ⟩)
              rwa [List.append_nil] at this
        unfold wpOpIn
        simp only [ho]
        unfold wpListIn at hl
        split
        · rename_i hw'
          rw [if_pos hw'] at hl
          exact Oper.wpIn_monoQ (fun ch a w h => lift_q (by intro h; cases h) h) (fun h => by first | exact fun a w => lift_q (by intro h; cases h) (h a w) | exact h) (Oper.wpIn_mono hK hl)
        · rename_i hw'
          rw [if_neg hw'] at hl
          exact ⟨hl.1, hK _ _ hl.2⟩
theorem FOk.more {Φ : List Flt} {φ ψ : Flt} (h : FOk P E ops n env own F D Φ φ) : FOk P E ops n env own F D (ψ :: Φ) φ := by
  obtain ⟨o, h1, h2, h3, h4⟩ := h
  refine ⟨o, h1, h2, h3, ?_⟩
  split at h4
  · exact h4
  · obtain ⟨e, he, hO, hs⟩ := h4
    refine ⟨e, fun s y hl => (he s y hl).imp id fun ⟨χ, k1, k2⟩ => ⟨χ, by simp [k1], k2⟩, hO, hs⟩
theorem JX.add {S : List Nat} {Φ : List Flt} (φ : Flt) (hS : memB φ.i S = false) (hΦ : memB φ.i (Φ.map (·.i)) = false) (hdd : (Φ.all fun ψ => !Nat.beq ψ.d φ.d) = true) (hne : lk env φ.d = none) (hok : FOk P E ops n env own F D (φ :: Φ) φ) (h : JX P E ops S (φ :: Φ) ⟨n, env, own, F, D⟩ Q) : JX P E ops S Φ ⟨n, env, own, F, D⟩ Q := fun hw hF fuel L bs A a w hc hcf => by
  have hun : L.getD φ.i false = false := hcf.no _ (fun h => by rw [memB_iff.2 h] at hS; cases hS) fun ψ hψ he => by rw [memB_iff.2 (List.mem_map.2 ⟨ψ, hψ, he⟩)] at hΦ; cases hΦ
  refine h ⟨?_, ?_, ?_, ?_⟩ (fun ψ hψ => ?_) fuel L bs A a w hc ⟨hcf.size, hcf.yes, fun i h1 h2 => hcf.no i h1 fun ψ hψ => h2 ψ (by simp [hψ]), hcf.clo, ?_, fun ψ hψ hL => ?_⟩
  · rw [List.map_cons, List.nodup_cons]
    exact ⟨fun h => (by rw [memB_iff.2 h] at hΦ; cases hΦ), hw.nd⟩
  · rw [List.map_cons, List.nodup_cons]
    refine ⟨fun h => ?_, hw.ndd⟩
    obtain ⟨ψ, hψ, he⟩ := List.mem_map.1 h
    have := List.all_eq_true.1 hdd ψ hψ
    rw [he] at this
    simp at this
  · intro ψ hψ
    rcases List.mem_cons.1 hψ with rfl | hψ
    · exact fun h => by rw [memB_iff.2 h] at hS; cases hS
    · exact hw.ns ψ hψ
  · intro ψ hψ
    rcases List.mem_cons.1 hψ with rfl | hψ
    · exact hne
    · exact hw.ne ψ hψ
  · rcases List.mem_cons.1 hψ with rfl | hψ
    · exact hok
    · exact (hF ψ hψ).more
  · have : exF L bs (φ :: Φ) = exF L bs Φ := by
      have : φ.ex L bs = [] := by unfold Flt.ex; split <;> simp [hun]
      simp [exF, this]
    rw [this]; exact hcf.sat
  · rcases List.mem_cons.1 hψ with rfl | hψ
    · rw [hun] at hL; cases hL
    · exact hcf.val ψ hψ hL
def selF (sl : List Nat) : List Flt → List (Nat × AV)
  | [] => []
  | ⟨_, d, .inl x, _, _⟩ :: Φ => match memB d sl with | true => (d, x) :: selF sl Φ | false => selF sl Φ
  | ⟨_, _, .inr _, _, _⟩ :: Φ => selF sl Φ
def chkF (o : Oper) (sl : List Nat) : List Flt → Bool
  | [] => true
  | ⟨i, d, .inl _, _, _⟩ :: Φ => (!memB d sl || depsOk o [i]) && chkF o sl Φ
  | ⟨_, _, .inr _, _, _⟩ :: Φ => chkF o sl Φ
theorem selF_get {o : Oper} {sl : List Nat} {env : List (Nat × AV)} : ∀ {Φ : List Flt}, chkF o sl Φ = true → ∀ s y, lk (selF sl Φ ++ env) s = some y → lk env s = some y ∨ ∃ ψ ∈ Φ, ψ.d = s ∧ ψ.v = .inl y ∧ depsOk o [ψ.i] = true
  | [], _, s, y, h => .inl (by simpa [selF] using h)
  | ⟨i, d, .inl x, fr, O⟩ :: Φ, hc, s, y, h => by
    unfold chkF at hc
    rw [Bool.and_eq_true, Bool.or_eq_true] at hc
    have hrec : lk (selF sl Φ ++ env) s = some y → lk env s = some y ∨ ∃ ψ ∈ (⟨i, d, .inl x, fr, O⟩ :: Φ : List Flt), ψ.d = s ∧ ψ.v = .inl y ∧ depsOk o [ψ.i] = true := fun h => (selF_get hc.2 s y h).imp id fun ⟨ψ, h1, h2⟩ => ⟨ψ, by simp [h1], h2⟩
    unfold selF at h
    split at h
    · rename_i hb
      rcases lk_cons h with ⟨rfl, rfl⟩ | ⟨_, h⟩
      · refine .inr ⟨_, List.mem_cons_self, rfl, rfl, ?_⟩
        have := hc.1
        rw [hb] at this
        simpa using this
      · exact hrec h
    · exact hrec h
  | ⟨i, d, .inr z, fr, O⟩ :: Φ, hc, s, y, h => (selF_get (sl := sl) (Φ := Φ) hc s y h).imp id fun ⟨ψ, h1, h2⟩ => ⟨ψ, by simp [h1], h2⟩
theorem JX.f {S : List Nat} {Φ : List Flt} {o : Oper} {d : Nat} {x : AV} (i : Nat) (sl : List Nat) (ho : ops[i]? = some o) (hd : o.dst = some d) (hn : Nat.blt d n = true) (hS : memB i S = false) (hΦ : memB i (Φ.map (·.i)) = false) (hdd : (Φ.all fun ψ => !Nat.beq ψ.d d) = true) (hne : lk env d = none) (hc : chkF o sl Φ = true)
    (hs : ∀ own', Step P E ops ⟨n, selF sl Φ ++ env, own', F, D⟩ o x) (h : JX P E ops S (⟨i, d, .inl x, true, none⟩ :: Φ) ⟨n, env, own, F, D⟩ Q) : JX P E ops S Φ ⟨n, env, own, F, D⟩ Q :=
  .add ⟨i, d, .inl x, true, none⟩ hS hΦ hdd hne ⟨o, ho, hd, blt_lt hn, selF sl Φ ++ env, fun s y hl => (selF_get hc s y hl).imp id fun ⟨ψ, h1, h2⟩ => ⟨ψ, by simp [h1], h2⟩, (fun k en h => by cases h), fun own' _ _ => hs own'⟩ h
theorem JX.o {S : List Nat} {Φ : List Flt} {o : Oper} {d : Nat} {x : AV} {en : Own} (i : Nat) (k : Nat) (sl : List Nat) (ho : ops[i]? = some o) (hd : o.dst = some d) (hn : Nat.blt d n = true) (hS : memB i S = false) (hΦ : memB i (Φ.map (·.i)) = false) (hdd : (Φ.all fun ψ => !Nat.beq ψ.d d) = true) (hne : lk env d = none) (hc : chkF o sl Φ = true) (hk : own[k]? = some en)
    (hs : ∀ own', own'[k]? = some en → Step P E ops ⟨n, selF sl Φ ++ env, own', F, D⟩ o x) (h : JX P E ops S (⟨i, d, .inl x, true, some (k, en)⟩ :: Φ) ⟨n, env, own, F, D⟩ Q) : JX P E ops S Φ ⟨n, env, own, F, D⟩ Q :=
  .add ⟨i, d, .inl x, true, some (k, en)⟩ hS hΦ hdd hne ⟨o, ho, hd, blt_lt hn, selF sl Φ ++ env, fun s y hl => (selF_get hc s y hl).imp id fun ⟨ψ, h1, h2⟩ => ⟨ψ, by simp [h1], h2⟩, (fun k' en' h => by cases h; exact hk), fun own' _ h => hs own' (h k en rfl)⟩ h
theorem JX.a {S : List Nat} {Φ : List Flt} {o : Oper} {d : Nat} {z : List AV} (i : Nat) (ho : ops[i]? = some o) (ha : AllocOp P o d z) (hn : Nat.blt d n = true) (hS : memB i S = false) (hΦ : memB i (Φ.map (·.i)) = false) (hdd : (Φ.all fun ψ => !Nat.beq ψ.d d) = true) (hne : lk env d = none)
    (h : JX P E ops S (⟨i, d, .inr z, true, none⟩ :: Φ) ⟨n, env, own, F, D⟩ Q) : JX P E ops S Φ ⟨n, env, own, F, D⟩ Q :=
  .add ⟨i, d, .inr z, true, none⟩ hS hΦ hdd hne ⟨o, ho, ha.dst, blt_lt hn, ha⟩ h
theorem JX.fin {S : List Nat} {Φ : List Flt} (hbk : backB 0 ops.toList = true) (hall : ((List.range ops.size).all fun i => memB i S || memB i (Φ.map (·.i))) = true) (h : ∀ bs, Q .normal ⟨n, vlF bs Φ ++ env, own ++ bxF bs Φ, F, D⟩) : JX P E ops S Φ ⟨n, env, own, F, D⟩ Q := fun hw hF fuel => by
  have hend : ∀ L bs A a w, Cfg E ops n env own F D S Φ L bs A a w → (∀ j, j < ops.size → L.getD j false = true) → lift E Q .normal a w := fun L bs A a w hcf hd => by
    have hdn : ∀ φ ∈ Φ, L.getD φ.i false = true := fun φ hφ => by
      obtain ⟨o, ho, _⟩ := hF φ hφ
      exact hd _ (Array.getElem?_eq_some_iff.1 ho).1
    refine ⟨_, h bs, A, hcf.sat.size, hcf.sat.defers, hcf.sat.keep, by rw [← exF_done hdn]; exact hcf.sat.hp, fun s x hl => ?_, hcf.sat.facts⟩
    rcases lk_vlF hl with ⟨φ, hφ, rfl, rfl⟩ | hl
    · exact hcf.val φ hφ (hdn φ hφ)
    · exact hcf.sat.env s x hl
  have hdone : ∀ L bs A a w, Cfg E ops n env own F D S Φ L bs A a w → Region.ready .any ops L = [] → ∀ j, j < ops.size → L.getD j false = true := by
    intro L bs A a w hcf hr j
    induction j using Nat.strongRecOn with
    | _ j ihj =>
      intro hjl
      cases hL : L.getD j false with
      | true => rfl
      | false =>
        exfalso
        obtain ⟨oj, hoj⟩ : ∃ oj, ops[j]? = some oj := ⟨_, Array.getElem?_eq_getElem hjl⟩
        have : j ∈ Region.ready .any ops L := ready_mem hcf.size hoj (by rw [getD_same (by rw [hcf.size]; exact hjl)]; exact hL) fun e he hb => by
          have hon := backB_lt hbk (i := j) (o := oj) (by simpa using hoj) e he hb
          exact ihj e.on (by omega) (by omega)
        rw [hr] at this
        cases this
  induction fuel with
  | zero =>
    intro L bs A a w hc hcf
    have hnil : Region.ready .any ops L = [] := by
      rw [List.eq_nil_iff_forall_not_mem]
      intro i hi
      obtain ⟨hlt, o, ho, hun, _⟩ := mem_ready hi
      have := List.countP_eq_zero.1 (Nat.le_zero.1 hc) i (by simpa using hlt)
      simp [hun] at this
    exact ⟨hnil, hend L bs A a w hcf (hdone L bs A a w hcf hnil)⟩
  | succ fuel ih =>
    intro L bs A a w hc hcf
    refine ⟨fun hr => hend L bs A a w hcf (hdone L bs A a w hcf hr), fun j hj => ?_⟩
    obtain ⟨hjl, oj, hoj, hunj, hdeps⟩ := mem_ready hj
    have hunj' : L.getD j false = false := by rw [← getD_same (by rw [hcf.size]; exact hjl)]; exact hunj
    have h1 := List.all_eq_true.1 hall j (by simpa using hjl)
    rw [Bool.or_eq_true] at h1
    rcases h1 with h1 | h1
    · rw [hcf.yes j (memB_iff.1 h1)] at hunj'; cases hunj'
    · obtain ⟨φ, hφ, rfl⟩ := List.mem_map.1 (memB_iff.1 h1)
      exact hcf.run hw hF hφ hunj' hjl (fun o' ho' => by rw [hoj] at ho'; cases ho'; exact hdeps) fun bs' A' a' w' hcf' => ih _ bs' A' a' w' (cnt_run hcf.size hjl hunj hc) hcf'
theorem J.regionX {id : Nat} {l : List Oper} (hm : P.follows .mixedOrders = true) (h : JX P E l.toArray [] [] ⟨n, dropEnv (dsts l) env, own, F, D⟩ Q) : J P E (.region id l.toArray true) ⟨n, env, own, F, D⟩ Q := fun a w ⟨A, hA⟩ => by
  have h0 : ∀ i, (Array.replicate l.toArray.size false).getD i false = false := fun i => by simp only [Array.getD_eq_getD_getElem?, Array.getElem?_replicate]; split <;> simp
  have hd := hA.drawn
  refine wpIn_region_any hm (h ⟨List.nodup_nil, List.nodup_nil, fun φ h => (by cases h), fun φ h => (by cases h)⟩ (fun φ h => by cases h) l.toArray.size _ (fun _ => 0) A a _ (Nat.le_trans List.countP_le_length (by simp)) ⟨by simp, fun i h => (by cases h), fun i _ _ => h0 i, fun i o _ hL => (by rw [h0] at hL; cases hL), ?_, fun φ h => by cases h⟩)
  have : exF (Array.replicate l.toArray.size false) (fun _ => 0) [] = [] := rfl
  rw [this, List.append_nil]
  exact ⟨hd.size, hd.defers, hd.keep, hd.hp, fun s y hl => hd.env s y (lk_filter (fun k => !((dsts l).any (Nat.beq k))) env s y hl).1, hd.facts⟩
theorem JX.one {S : List Nat} {Φ : List Flt} (i : Nat) (ms : List Bool) {o : Oper} (ho : ops[i]? = some o) (hbk : backB 0 ops.toList = true) (hblk : blkB ops.toList S (Φ.map (·.i)) i = true) (hS : memB i S = false) (hΦ : memB i (Φ.map (·.i)) = false)
    (hlnd : lndB ops.toList o [] ((tkM ms Φ).map (·.i)) = true) (hfre : (lvM ms Φ).all (·.fre) = true)
    (h : ∀ bs pe ex, JL P E ops [o] ⟨n, vlF bs (tkM ms Φ) ++ (env ++ pe), own ++ (bxF bs (tkM ms Φ) ++ ex), F, D⟩ (thenQ (fun s => ∃ ev own', s.n = n ∧ s.env = ev ++ (vlF bs (tkM ms Φ) ++ (env ++ pe)) ∧ s.facts = F ∧ s.dfs = D ∧ ev.all (fun p => o.dst == some p.1) = true ∧ Reown s.own (own' ++ ex) ∧
      (match o.dst with | some d => (Φ.all fun φ => !Nat.beq φ.d d) = true ∧ lk env d = none | none => True) ∧ okO own' (lvM ms Φ) ∧ JX P E ops (i :: ((tkM ms Φ).map (·.i) ++ S)) (lvM ms Φ) ⟨n, ev ++ (vlF bs (tkM ms Φ) ++ env), own', F, D⟩ Q) Q)) : JX P E ops S Φ ⟨n, env, own, F, D⟩ Q :=
  .step i ms ho hbk hblk hS hΦ hlnd hfre fun bs pe ex a w hs => by
    have := h bs pe ex a w hs
    refine wpListIn_monoN this fun a' w' ⟨s, ⟨ev, own', h1, h2, h3, h4, h5, h6, h7, h8, h9⟩, hs'⟩ => ⟨s, ⟨ev, _, own', h1, by rw [h2]; simp, h3, h4, rfl, h5, h6, h7, h8, h9⟩, hs'⟩
theorem JX.conv {S S' : List Nat} {Φ Φ' : List Flt} {st st' : St} (hS : S = S') (hΦ : Φ = Φ') (hst : st = st') (h : JX P E ops S' Φ' st' Q) : JX P E ops S Φ st Q := by subst hS hΦ hst; exact h
theorem QX.conv {Q : Exit → St → Prop} {st st' : St} (h : st = st') (k : Q .normal st') : Q .normal st := h ▸ k
theorem Reown.tkN (k : Nat) {l ex : List Own} (h : l.drop k = ex) : Reown l (l.take k ++ ex) := .ofEq (by subst h; exact (List.take_append_drop k l).symm)
theorem Reown.mrgN (k : Nat) {ms : List Cd} {ps l ex : List Own} (h : l.drop k = ex) (hl : Nat.ble ms.length (l.take k).length = true) : Reown (mrg ms ps l) (mrg ms ps (l.take k) ++ ex) := by
  have := Reown.perm (mrg_frame ms ps (l.take k) ex (Nat.le_of_ble_eq_true hl))
  rw [← h, List.take_append_drop] at this
  rw [← h]; exact this
end
end Go.Proofs.YtmccnmahegbmpaaGreat.J

/- Short forms of the steps of a walk. -/
namespace Go.Proofs.YtmccnmahegbmpaaGreat.J
open Go Go.RowKit
section
variable {P : Program} {E : Ent} {Q : Exit → St → Prop} {n : Nat} {env : List (Nat × AV)} {own : List Own} {F : List (Value × AV)} {D : List Deferred} {ops : Array Oper} {rest : List Oper} {o : Oper} {d : Nat} {x : AV} {S : List Nat} {Φ : List Flt} {st : St}
theorem Zq (h0 : (o.guard, o.dst, Nat.blt d n) = (none, some d, true)) (hq : QW P E ⟨n, env, own, F, D⟩ o x) (h : JL P E ops rest ⟨n, (d, x) :: env, own, F, D⟩ Q) : JL P E ops (o :: rest) ⟨n, env, own, F, D⟩ Q := by
  simp only [Prod.mk.injEq] at h0
  obtain ⟨h1, h2, h3⟩ := h0
  exact JL.q h1 h2 h3 hq h
theorem Zg {j s : Nat} {want g : Bool} (h0 : (o.guard, o.dst, Nat.blt d n, (ops[j]?).bind (·.dst), lk env s) = (some (j, want), some d, true, some s, some (.c (.bool g)))) (hq : (g == want) = true → QW P E ⟨n, env, own, F, D⟩ o x)
    (h : JL P E ops rest ⟨n, (d, .wh (g == want) x) :: env, own, F, D⟩ Q) : JL P E ops (o :: rest) ⟨n, env, own, F, D⟩ Q := by
  simp only [Prod.mk.injEq] at h0
  obtain ⟨h1, h2, h3, h4, h5⟩ := h0
  exact JL.g h1 h2 h3 h4 h5 hq h
theorem Zf (i : Nat) (sl : List Nat) (h0 : (ops[i]?, o.dst, Nat.blt d n, memB i S, memB i (Φ.map (·.i)), Φ.all fun ψ => !Nat.beq ψ.d d, lk env d, chkF o sl Φ, o.guard) = (some o, some d, true, false, false, true, none, true, none))
    (hs : ∀ own', QW P E ⟨n, selF sl Φ ++ env, own', F, D⟩ o x) (h : JX P E ops S (⟨i, d, .inl x, true, none⟩ :: Φ) ⟨n, env, own, F, D⟩ Q) : JX P E ops S Φ ⟨n, env, own, F, D⟩ Q := by
  simp only [Prod.mk.injEq] at h0
  obtain ⟨h1, h2, h3, h4, h5, h6, h7, h8, h9⟩ := h0
  exact JX.f i sl h1 h2 h3 h4 h5 h6 h7 h8 (fun w => Step.q h9 (hs w)) h
theorem Zh {j s : Nat} {want g : Bool} (i : Nat) (sl : List Nat) (h0 : (ops[i]?, o.dst, Nat.blt d n, memB i S, memB i (Φ.map (·.i)), Φ.all fun ψ => !Nat.beq ψ.d d, lk env d, chkF o sl Φ, o.guard, (ops[j]?).bind (·.dst), lk (selF sl Φ ++ env) s) = (some o, some d, true, false, false, true, none, true, some (j, want), some s, some (.c (.bool g))))
    (hs : ∀ own', (g == want) = true → QW P E ⟨n, selF sl Φ ++ env, own', F, D⟩ o x) (h : JX P E ops S (⟨i, d, .inl (.wh (g == want) x), true, none⟩ :: Φ) ⟨n, env, own, F, D⟩ Q) : JX P E ops S Φ ⟨n, env, own, F, D⟩ Q := by
  simp only [Prod.mk.injEq] at h0
  obtain ⟨h1, h2, h3, h4, h5, h6, h7, h8, h9, h10, h11⟩ := h0
  exact JX.f i sl h1 h2 h3 h4 h5 h6 h7 h8 (fun w => Step.g h9 h10 h11 (hs w)) h
theorem Zo {en : Own} (i : Nat) (k : Nat) (sl : List Nat) (h0 : (ops[i]?, o.dst, Nat.blt d n, memB i S, memB i (Φ.map (·.i)), Φ.all fun ψ => !Nat.beq ψ.d d, lk env d, chkF o sl Φ, own[k]?, o.guard) = (some o, some d, true, false, false, true, none, true, some en, none))
    (hs : ∀ own', own'[k]? = some en → QW P E ⟨n, selF sl Φ ++ env, own', F, D⟩ o x) (h : JX P E ops S (⟨i, d, .inl x, true, some (k, en)⟩ :: Φ) ⟨n, env, own, F, D⟩ Q) : JX P E ops S Φ ⟨n, env, own, F, D⟩ Q := by
  simp only [Prod.mk.injEq] at h0
  obtain ⟨h1, h2, h3, h4, h5, h6, h7, h8, h9, h10⟩ := h0
  exact JX.o i k sl h1 h2 h3 h4 h5 h6 h7 h8 h9 (fun w hw => Step.q h10 (hs w hw)) h
theorem Zp {en : Own} {j s : Nat} {want g : Bool} (i : Nat) (k : Nat) (sl : List Nat) (h0 : (ops[i]?, o.dst, Nat.blt d n, memB i S, memB i (Φ.map (·.i)), Φ.all fun ψ => !Nat.beq ψ.d d, lk env d, chkF o sl Φ, own[k]?, o.guard, (ops[j]?).bind (·.dst), lk (selF sl Φ ++ env) s) = (some o, some d, true, false, false, true, none, true, some en, some (j, want), some s, some (.c (.bool g))))
    (hs : ∀ own', own'[k]? = some en → (g == want) = true → QW P E ⟨n, selF sl Φ ++ env, own', F, D⟩ o x) (h : JX P E ops S (⟨i, d, .inl (.wh (g == want) x), true, some (k, en)⟩ :: Φ) ⟨n, env, own, F, D⟩ Q) : JX P E ops S Φ ⟨n, env, own, F, D⟩ Q := by
  simp only [Prod.mk.injEq] at h0
  obtain ⟨h1, h2, h3, h4, h5, h6, h7, h8, h9, h10, h11, h12⟩ := h0
  exact JX.o i k sl h1 h2 h3 h4 h5 h6 h7 h8 h9 (fun w hw => Step.g h10 h11 h12 (hs w hw)) h
theorem Zn {K : St → Prop} (h : K st) : JL P E ops [] st (thenQ K Q) := JL.nil h
theorem Zs {id : Nat} {l : List Oper} {y : Code} (h : JL P E l.toArray l st (thenQ (fun s => J P E y s Q) Q)) : J P E (.seq (.region id l.toArray false) y) st Q := J.seq (J.region_lit h)
theorem Zk {K : St → Prop} (h : K st) : J P E .skip st (thenQ K Q) := J.skip h
theorem Zr {fn : Func} {R : Res → List Own → Prop} {s : St} {x : AV} (ms : List Cd) (h1 : RetEv P fn s x) (h2 : s.dfs = []) (h3 : R (.ret x) (selP ms s.own)) : retQ P fn R .ret s := ⟨_, selP ms _, _, h1, h2, sel_perm ms _, h3⟩
end
theorem nl : (∀ {α : Type} (a : α), id a = a) ∧ (∀ {α β : Type} (f : α → β) (a : α) (l : List α), (a :: l).map f = f a :: l.map f) ∧ (∀ {α β : Type} (f : α → β), ([] : List α).map f = []) ∧ (∀ {α : Type} (a : α) (l : List α), (a :: l).reverse = l.reverse ++ [a]) ∧
    (∀ {α : Type}, ([] : List α).reverse = []) ∧ (∀ {α : Type} (l : List α), [] ++ l = l) ∧ (∀ {α : Type} (a : α) (l k : List α), (a :: l) ++ k = a :: (l ++ k)) ∧ (∀ {α : Type} (l : List α), l ++ [] = l) ∧ (∀ {α : Type} (a : α) (l : List α), (a :: l)[0]? = some a) ∧ (∀ {α : Type} (a : α) (l : List α) (i : Nat), (a :: l)[i + 1]? = l[i]?) ∧
    (∀ {α β : Type} (f : α → β) (a : α), (some a).map f = some (f a)) ∧ (∀ {α : Type} (a b : α), (some a).getD b = a) ∧ (∀ {α : Type} (a b : α) (l : List α), (a :: l).set 0 b = b :: l) ∧ (∀ {α : Type} (a b : α) (l : List α) (i : Nat), (a :: l).set (i + 1) b = a :: l.set i b) ∧ (∀ n : Nat, 0 + n = n) :=
  ⟨id_eq, fun _ _ _ => rfl, fun _ => rfl, fun _ _ => List.reverse_cons, rfl, fun _ => rfl, fun _ _ _ => rfl, List.append_nil, fun _ _ => rfl, fun _ _ _ => rfl, fun _ _ => rfl, fun _ _ => rfl, fun _ _ _ => rfl, fun _ _ _ _ => rfl, Nat.zero_add⟩
theorem nx : (∀ {α : Type} (a b c : List α), a ++ b ++ c = a ++ (b ++ c)) ∧ (∀ {α : Type} (a : α) (l : List α) (i : Nat), (a :: l).take (i + 1) = a :: l.take i) ∧ (∀ {α : Type} (l : List α), l.take 0 = []) ∧ (∀ {α : Type} (a b : List α), List.append a b = a ++ b) :=
  ⟨List.append_assoc, fun _ _ _ => rfl, fun _ => rfl, fun _ _ => rfl⟩
theorem vl {fr : Bool} {v : V} : (v.cs fr).length = 5 := V.cs_length _ _
theorem wl {fr : Bool} {l : List V} : (V.css fr l).length = l.length := V.css_length _ _
theorem xl {fr : Bool} {v : EX} : (v.cs fr).length = 4 := EX.cs_length _ _
theorem lr {F : List (Value × AV)} {x : AV} : Le F x x := .refl _
end Go.Proofs.YtmccnmahegbmpaaGreat.J

/- What expressions among the inputs read as. -/
namespace Go.Proofs.YtmccnmahegbmpaaGreat.J
open Go Go.RowKit
set_option maxRecDepth 10000
set_option maxHeartbeats 4000000
theorem EX.rd {H : Type} {enc : TypeId × Value → H} {w : World} : ∀ (fuel : Nat) (cs : List Value) (x : DataW H × List MemPlace), trd enc Tryz.prog w fuel 60 cs = some x → Fits Tryz.prog 60 x.1 → ∃ v : EX, v.wf ∧ RdC w cs (v.cs false) := by
  intro fuel
  induction fuel using Nat.strongRecOn with
  | _ fuel ih =>
  intro cs x h hf
  obtain ⟨xs, n, rfl, rfl, hl, hlen, hg⟩ := DataW.trod_struct Tryz.underlying60 h
  obtain ⟨y0, y1, y2, y3, rfl⟩ : ∃ y0 y1 y2 y3, xs = [y0, y1, y2, y3] := by
    match xs, hlen with
    | [y0, y1, y2, y3], _ => exact ⟨y0, y1, y2, y3, rfl⟩
  have h0 := hg 0 _ rfl
  obtain ⟨a0, b0, r0⟩ := rd_i64 Tryz.underlying3 h0
  have h1 := hg 1 _ rfl
  obtain ⟨a1, b1, r1⟩ := rd_u64 Tryz.underlying22 h1
  have h2 := hg 2 _ rfl
  obtain ⟨a2, b2, r2⟩ := rd_str Tryz.underlying9 h2 (Fits.field Tryz.underlying60 hf (i := 2) rfl rfl)
  have h3 := hg 3 _ rfl
  obtain ⟨a3, b3, c3, r3⟩ := rd_slice (ei := eEX) (f := EX.cs false) (Wf := EX.wf) Tryz.underlying58 (by kernel_rfl) (by kernel_rfl) (by decide) h3 (Fits.field Tryz.underlying60 hf (i := 3) rfl rfl) (fun _ => EX.cs_length false _) (fun m cs' y hm hy hfy => ih m (by omega) cs' y hy hfy)
  refine ⟨.mk a0 a1 a2 a3, .mk b0 b1 b2 c3 b3, ?_⟩
  have := (RdC.join r0 (by kernel_rfl) (by kernel_rfl) ((RdC.join r1 (by kernel_rfl) (by kernel_rfl) ((RdC.join r2 (by kernel_rfl) (by kernel_rfl) (RdC.last r3 (hl.trans (by kernel_rfl))))))))
  simpa [EX.cs, EX.css_eq] using this
end Go.Proofs.YtmccnmahegbmpaaGreat.J

