/- Calls that pass own entries, or lend them to be read; what is read through blocks of one sort alone; loops that keep the slots around them. -/
import Derived.Test.YtkiankpmkglhcaaJ11
namespace Go.Proofs.Ytkiankpmkglhcaa.J
open Go Go.RowKit
set_option linter.unusedVariables false
set_option linter.unusedSimpArgs false

/-- Each block that a value is read through is of a sort that p has. -/
inductive Fl (p : Bool → Prop) : AV → Prop
  | c (v : Value) : Fl p (.c v)
  | gp (v : Value) (o : Nat) : Fl p (.gp v o)
  | sl {fr clip : Bool} {e : ETy} {xs : List (List AV)} (hp : p fr) (h : ∀ (k : Nat) (y : AV), xs.flatten[k]? = some y → Fl p y) : Fl p (.sl fr clip e xs)
  | ref {fr : Bool} {ys : List AV} (hp : p fr) (h : ∀ (k : Nat) (y : AV), ys[k]? = some y → Fl p y) : Fl p (.ref fr ys)
  | agg {ys : List AV} (h : ∀ (k : Nat) (y : AV), ys[k]? = some y → Fl p y) : Fl p (.agg ys)
  | tup {ys : List AV} (h : ∀ (k : Nat) (y : AV), ys[k]? = some y → Fl p y) : Fl p (.tup ys)
  | wh {t : Bool} {x : AV} (h : Fl p x) : Fl p (.wh t x)

def FlL (p : Bool → Prop) (ys : List AV) : Prop := ∀ (k : Nat) (y : AV), ys[k]? = some y → Fl p y
theorem FlL.nil {p : Bool → Prop} : FlL p [] := fun k y h => by simp at h
theorem FlL.cons {p : Bool → Prop} {y : AV} {ys : List AV} (h : Fl p y) (hs : FlL p ys) : FlL p (y :: ys) := fun k z hk => by
  cases k with
  | zero => simp at hk; subst hk; exact h
  | succ k => exact hs k z (by simpa using hk)
theorem FlL.append {p : Bool → Prop} {ys zs : List AV} (h : FlL p ys) (hs : FlL p zs) : FlL p (ys ++ zs) := fun k z hk => by
  by_cases hlt : k < ys.length
  · rw [List.getElem?_append_left hlt] at hk; exact h k z hk
  · rw [List.getElem?_append_right (by omega)] at hk; exact hs _ z hk
theorem FlL.c {p : Bool → Prop} : ∀ (vs : List Value), FlL p (vs.map AV.c)
  | [] => .nil
  | v :: vs => .cons (.c v) (FlL.c vs)

abbrev Fresh : AV → Prop := Fl (· = true)
abbrev FreshL : List AV → Prop := FlL (· = true)

theorem Rd.flags {w w' : World} {A A' : Foot} {p : Bool → Prop} {v : Value} {x : AV} (h : Rd w A v x) (hx : Fl p x) (hA : ∀ fr b, p fr → A fr b → A' fr b) (hw : ∀ fr b, p fr → A fr b → w'.heap[b]? = w.heap[b]?) : Rd w' A' v x := by
  induction h with
  | c v => exact .c v
  | emp fr clip e a cap hc => exact .emp fr clip e a cap hc
  | sl fr clip e xs b off cap cs t fz u hA' hb hcap hclip hsz hreach hu _ ih =>
    cases hx with
    | sl hp h => exact .sl fr clip e xs b off cap cs t fz u (hA _ _ hp hA') (by rw [hw _ _ hp hA']; exact hb) hcap hclip hsz hreach hu fun k y hk => ih k y hk (h k y hk)
  | ref fr ys b off cs t fz u hA' hb hu _ ih =>
    cases hx with
    | ref hp h => exact .ref fr ys b off cs t fz u (hA _ _ hp hA') (by rw [hw _ _ hp hA']; exact hb) hu fun k y hk => ih k y hk (h k y hk)
  | agg vs ys u hn hu _ ih => cases hx with | agg h => exact .agg vs ys u hn hu fun k y hk => ih k y hk (h k y hk)
  | tup vs ys u hn hu _ ih => cases hx with | tup h => exact .tup vs ys u hn hu fun k y hk => ih k y hk (h k y hk)
  | wh t v x _ h0 ih => cases hx with | wh h => exact .wh t v x (fun ht => ih ht h) h0
  | gp b o n cap off => exact .gp b o n cap off

inductive OwnFl (p : Bool → Prop) : Own → Prop
  | box {b : Nat} {ys : List AV} (h : FlL p ys) : OwnFl p (.box b ys)
  | arr {v : Value} {e : ETy} {xs : List (List AV)} (h : FlL p xs.flatten) : OwnFl p (.arr v e xs)
  | grp {l : List Own} (h : ∀ o ∈ l, OwnFl p o) : OwnFl p (.grp l)

theorem Cells.flags {w w' : World} {A A' : Foot} {p : Bool → Prop} {us : Array Value} {off : Nat} {ys : List AV} (h : Cells w A us off ys) (hy : FlL p ys) (hA : ∀ fr b, p fr → A fr b → A' fr b) (hw : ∀ fr b, p fr → A fr b → w'.heap[b]? = w.heap[b]?) : Cells w' A' us off ys :=
  fun k y hk => let ⟨u, h1, h0, h2⟩ := h k y hk; ⟨u, h1, h0, h2.flags (hy k y hk) hA hw⟩

mutual
theorem Own.ok.flags {w : World} {A A' : Foot} {p : Bool → Prop} (hA : ∀ fr b, p fr → A fr b → A' fr b) : ∀ {o : Own}, o.ok w A → OwnFl p o → o.ok w A'
  | .box b ys, h, hx => by
    simp only [Own.ok] at h ⊢
    obtain ⟨us, t, h1, h2, h3⟩ := h
    cases hx with | box hy => exact ⟨us, t, h1, h2, h3.flags hy hA fun _ _ _ _ => rfl⟩
  | .arr v e xs, h, hx => by
    simp only [Own.ok] at h ⊢
    cases hx with
    | arr hy =>
      rcases h with h | ⟨b, cap, us, t, hv, h1, h2, h3, h4, h5⟩
      · exact .inl h
      · exact .inr ⟨b, cap, us, t, hv, h1, h2, h3, h4, h5.flags hy hA fun _ _ _ _ => rfl⟩
  | .grp l, h, hx => by
    simp only [Own.ok] at h ⊢
    cases hx with | grp hy => exact Own.okl.flags hA h hy
theorem Own.okl.flags {w : World} {A A' : Foot} {p : Bool → Prop} (hA : ∀ fr b, p fr → A fr b → A' fr b) : ∀ {l : List Own}, Own.okl w A l → (∀ o ∈ l, OwnFl p o) → Own.okl w A' l
  | [], _, _ => by simp [Own.okl]
  | o :: l, h, hx => by
    simp only [Own.okl] at h ⊢
    exact ⟨Own.ok.flags hA h.1 (hx o (by simp)), Own.okl.flags hA h.2 fun o ho => hx o (by simp [ho])⟩
end

theorem fpl_eq : ∀ l : List Own, Own.fpl l = fps l
  | [] => by simp [Own.fpl, fps]
  | o :: l => by simp [Own.fpl, fps, fpl_eq l]
theorem okl_iff {w : World} {A : Foot} : ∀ {l : List Own}, Own.okl w A l ↔ ∀ o ∈ l, o.ok w A
  | [] => by simp [Own.okl]
  | o :: l => by simp [Own.okl, okl_iff (l := l)]

/-! ### masks -/
inductive Cd where
  | k
  | p
  | l
  deriving DecidableEq

def selK : List Cd → List Own → List Own
  | [], own => own
  | _ :: _, [] => []
  | .k :: ms, o :: own => o :: selK ms own
  | .p :: ms, _ :: own => selK ms own
  | .l :: ms, _ :: own => selK ms own
def selP : List Cd → List Own → List Own
  | [], _ => []
  | _ :: _, [] => []
  | .p :: ms, o :: own => o :: selP ms own
  | .k :: ms, _ :: own => selP ms own
  | .l :: ms, _ :: own => selP ms own
def selL : List Cd → List Own → List Own
  | [], _ => []
  | _ :: _, [] => []
  | .l :: ms, o :: own => o :: selL ms own
  | .k :: ms, _ :: own => selL ms own
  | .p :: ms, _ :: own => selL ms own
/-- What is passed comes back in its place; what is more, at the end. -/
def mrg : List Cd → List Own → List Own → List Own
  | [], ps, own => own ++ ps
  | _ :: _, ps, [] => ps
  | .p :: ms, p :: ps, _ :: own => p :: mrg ms ps own
  | .p :: ms, [], _ :: own => mrg ms [] own
  | .k :: ms, ps, o :: own => o :: mrg ms ps own
  | .l :: ms, ps, o :: own => o :: mrg ms ps own

theorem sel_perm : ∀ (ms : List Cd) (own : List Own), own.Perm (selP ms own ++ (selL ms own ++ selK ms own))
  | [], own => by simp [selP, selL, selK]
  | _ :: _, [] => by simp [selP, selL, selK]
  | .p :: ms, o :: own => by simpa [selP, selL, selK] using sel_perm ms own
  | .l :: ms, o :: own => by
    simp only [selP, selL, selK, List.cons_append]
    exact (List.Perm.cons o (sel_perm ms own)).trans List.perm_middle.symm
  | .k :: ms, o :: own => by
    simp only [selP, selL, selK]
    refine (List.Perm.cons o (sel_perm ms own)).trans ?_
    rw [← List.append_assoc, ← List.append_assoc]
    exact List.perm_middle.symm
theorem mrg_perm : ∀ (ms : List Cd) (ps own : List Own), (ps ++ (selL ms own ++ selK ms own)).Perm (mrg ms ps own)
  | [], ps, own => by simpa [mrg, selL, selK] using List.perm_append_comm
  | _ :: _, ps, [] => by simp [mrg, selL, selK]
  | .p :: ms, p :: ps, _ :: own => by simpa [mrg, selL, selK] using mrg_perm ms ps own
  | .p :: ms, [], _ :: own => by simpa [mrg, selL, selK] using mrg_perm ms [] own
  | .k :: ms, ps, o :: own => by
    simp only [mrg, selL, selK]
    refine List.Perm.trans ?_ (List.Perm.cons o (mrg_perm ms ps own))
    rw [← List.append_assoc, ← List.append_assoc]
    exact List.perm_middle
  | .l :: ms, ps, o :: own => by
    simp only [mrg, selL, selK, List.cons_append]
    exact List.perm_middle.trans (List.Perm.cons o (mrg_perm ms ps own))

section
variable {P : Program} {E : Ent} {st : St} {Q : Exit → St → Prop} {n B : Nat} {env : List (Nat × AV)} {own : List Own} {F : List (Value × AV)} {D : List Deferred} {ops : Array Oper} {rest : List Oper}
variable {A : Foot} {a : Act} {w w' : World} {t et ty : TypeId} {pos : String} {af : Array Edge} {d : Nat} {dd : Option Tmp} {gd : Option (Nat × Bool)} {x y : Operand} {g : Bool} {m : Nat}

/-- What own entries that are lent read as. -/
def Lent (G : List (Value × AV)) (O : List Own) : Prop := ∀ (w : World) (A : Foot), Own.okl w A O → (∀ b ∈ fps O, A false b) → (∀ b, A true b → A false b) → ∀ p ∈ G, Rd w A p.1 p.2
theorem Lent.nil {O : List Own} : Lent [] O := fun w A _ _ _ p hp => by cases hp

def FreshR : Res → Prop
  | .ret x => Fresh x
  | .pan _ => True

/-- A call: entries are passed (p), lent to be read (l), kept (k). -/
theorem SatA.callG {E : Ent} (ms : List Cd) {f : FuncId} {l : List Operand} {xs : List AV} {fi ca : List Value} {R : Res → List Own → Prop} {G : List (Value × AV)} (hG : Lent G (selL ms own))
    (hfr : selL ms own = [] ∨ ∀ r o, R r o → FreshR r ∧ ∀ x ∈ o, OwnFl (· = true) x)
    (hA : SatA E A ⟨n, env, own, F, D⟩ a w) (hargs : ∀ E', EvL E' ⟨n, env, selP ms own ++ selK ms own, G ++ F, D⟩ l xs) (hAC : AC P f (selP ms own) (fi.map AV.c ++ xs ++ ca.map AV.c) R)
    {KK : Ending → World → Prop} (hK : ∀ r own' A' w', R r own' → Frm w A w' A' → SatA E A' ⟨n, env, mrg ms own' own, F, D⟩ a w' → ∀ e, RdE w' A' e r → KK e w') :
    Calls P f (fi.toArray ++ l.toArray.map a.eval ++ ca.toArray) w KK := by
  obtain ⟨O, hO⟩ : ∃ O, O = selL ms own := ⟨_, rfl⟩
  obtain ⟨op, hop⟩ : ∃ op, op = selP ms own := ⟨_, rfl⟩
  obtain ⟨ro, hro⟩ : ∃ ro, ro = selK ms own := ⟨_, rfl⟩
  have hperm : own.Perm (op ++ (O ++ ro)) := by rw [hO, hop, hro]; exact sel_perm ms own
  have hmrg : ∀ ps, (ps ++ (O ++ ro)).Perm (mrg ms ps own) := fun ps => by rw [hO, hro]; exact mrg_perm ms ps own
  rw [← hO] at hG hfr
  rw [← hop, ← hro] at hargs
  rw [← hop] at hAC
  have h := hA.perm hperm
  have hn0 := h.keep.size
  have hnd := h.hp.nodup
  simp only [fps_append, List.nodup_append] at hnd
  obtain ⟨hd1, ⟨hd2, hd3, hd4⟩, hd5⟩ := hnd
  let A1 : Foot := fun fr b => A fr b ∨ (fr = false ∧ b ∈ fps O)
  have hup : ∀ fr b, A fr b → A1 fr b := fun fr b hb => .inl hb
  have hfp : ∀ b, b ∈ fps op ∨ b ∈ fps O ∨ b ∈ fps ro → b < w.heap.size ∧ (b ∈ E.fp0 ∨ E.w0.heap.size ≤ b) ∧ ∀ fr, ¬ A fr b := fun b hb => h.hp.fp b (by simp only [fps_append, List.mem_append]; exact hb)
  have hmv : ∀ {v x}, Rd w A v x → Rd w A1 v x := fun hr => hr.move (fun fr b hb _ => hup fr b hb) fun _ _ _ _ => rfl
  have hokm : ∀ {o : Own}, o.ok w A → o.ok w A1 := fun ho => ho.move (fun fr b hb _ => hup fr b hb) (fun _ _ _ _ => rfl) fun _ _ => rfl
  have hA1lt : ∀ fr b, A1 fr b → b < w.heap.size := fun fr b hb => hb.elim (h.hp.lt fr b) fun hb => (hfp b (.inr (.inl hb.2))).1
  have hA1m : ∀ b, A1 true b → A1 false b := fun b hb => hb.elim (fun hb => .inl (h.hp.mono b hb)) fun hb => by cases hb.1
  have hnot : ∀ b, b ∈ fps op ∨ b ∈ fps ro → ∀ fr, ¬ A1 fr b := fun b hb fr hA => by
    rcases hA with hA | ⟨_, hA⟩
    · exact (hfp b (hb.elim .inl fun hb => .inr (.inr hb))).2.2 fr hA
    · rcases hb with hb | hb
      · exact hd5 b hb b (List.mem_append_left _ hA) rfl
      · exact hd4 b hA b hb rfl
  -- the callee's start
  have hstart : Hp w.heap.size (fps op) A1 op w A1 := ⟨hA1m, fun _ _ h => h, fun _ _ h => .inl h, hA1lt, fun b hb => ⟨(hfp b (.inl hb)).1, .inl hb, hnot b (.inl hb)⟩, hd1, fun o ho => hokm (h.hp.own o (List.mem_append_left _ ho))⟩
  -- the arguments
  have hargs' : SatA ⟨w, fps (op ++ ro), A1, none⟩ A1 ⟨n, env, op ++ ro, G ++ F, D⟩ a w := by
    refine ⟨h.size, h.defers, .refl _ _, ⟨hA1m, fun _ _ h => h, fun _ _ h => .inl h, hA1lt, fun b hb => ?_, ?_, fun o ho => ?_⟩, fun i x hl => hmv (h.env i x hl), fun p hp => ?_⟩
    · have hb' := hb
      rw [fps_append, List.mem_append] at hb
      exact ⟨(hfp b (hb.elim .inl fun hb => .inr (.inr hb))).1, .inl hb', hnot b hb⟩
    · rw [fps_append, List.nodup_append]
      exact ⟨hd1, hd3, fun b hb c hc => hd5 b hb c (List.mem_append_right _ hc)⟩
    · rcases List.mem_append.1 ho with ho | ho
      · exact hokm (h.hp.own o (List.mem_append_left _ ho))
      · exact hokm (h.hp.own o (List.mem_append_right _ (List.mem_append_right _ ho)))
    · rcases List.mem_append.1 hp with hp | hp
      · exact hG w A1 (okl_iff.2 fun o ho => hokm (h.hp.own o (List.mem_append_right _ (List.mem_append_left _ ho)))) (fun b hb => .inr ⟨rfl, hb⟩) hA1m p hp
      · exact hmv (h.facts p hp)
  refine (hAC w A1 _ hstart (((hargs _).rdL hargs').around fi ca)).mono ?_
  rintro e w' ⟨r, own', A', hR, hk, hp, hr⟩
  let A2 : Foot := fun fr b => A' fr b ∧ b ∉ fps O
  have hA2 : ∀ fr b, A fr b → A2 fr b := fun fr b hb => ⟨hp.sup fr b (hup fr b hb), fun hm => (hfp b (.inr (.inl hm))).2.2 fr hb⟩
  have hfix : ∀ b, b < w.heap.size → b ∉ fps op → w'.heap[b]? = w.heap[b]? := fun b hb hm => hk.block b hb hm
  have hop' : ∀ fr b, A fr b → b ∉ fps op := fun fr b hb hm => (hfp b (.inl hm)).2.2 fr hb
  have hmv2 : ∀ {v x}, Rd w A v x → Rd w' A2 v x := fun hr => hr.move (fun fr b hb _ => hA2 fr b hb) fun fr b hb hlt => hfix b hlt (hop' fr b hb)
  have hrest : ∀ b, b ∈ fps O ∨ b ∈ fps ro → b ∉ fps op := fun b hb hm => hd5 b hm b (List.mem_append.2 hb) rfl
  have hokr : ∀ o, o ∈ O ∨ o ∈ ro → o.ok w' A2 := fun o ho =>
    (h.hp.own o (List.mem_append_right _ (List.mem_append.2 ho))).move (fun fr b hb _ => hA2 fr b hb) (fun fr b hb hlt => hfix b hlt (hop' fr b hb))
      fun b hb => by
        have : b ∈ fps O ∨ b ∈ fps ro := ho.imp (fun ho => fps_mem ho hb) fun ho => fps_mem ho hb
        exact hfix b (hfp b (.inr this)).1 (hrest b this)
  have hA'O : ∀ b, A' true b → b ∉ fps O := fun b hb hm => by
    rcases hp.sub true b hb with h1 | h1
    · rcases h1 with h1 | h1
      · exact (hfp b (.inr (.inl hm))).2.2 _ h1
      · cases h1.1
    · have := (hfp b (.inr (.inl hm))).1; omega
  have hres : SatA E A2 ⟨n, env, own' ++ (O ++ ro), F, D⟩ a w' := by
    refine ⟨h.size, h.defers, h.keep.trans hk fun b hb => (hfp b (.inl hb)).2.1, ⟨fun b hb => ⟨hp.mono b hb.1, hb.2⟩, fun fr b hb => hA2 fr b (h.hp.sup fr b hb), fun fr b hb => ?_, fun fr b hb => hp.lt fr b hb.1, fun b hb => ?_, ?_, fun o ho => ?_⟩,
      fun i x hl => hmv2 (h.env i x hl), fun p hp => hmv2 (h.facts p hp)⟩
    · rcases hp.sub fr b hb.1 with h1 | h1
      · rcases h1 with h1 | h1
        · exact h.hp.sub fr b h1
        · exact absurd h1.2 hb.2
      · exact .inr (Nat.le_trans hn0 h1)
    · simp only [fps_append, List.mem_append] at hb
      rcases hb with hb | hb
      · obtain ⟨g1, g2, g3⟩ := hp.fp b hb
        refine ⟨g1, ?_, fun fr hA => g3 fr hA.1⟩
        rcases g2 with g2 | g2
        · exact (hfp b (.inl g2)).2.1
        · exact .inr (Nat.le_trans hn0 g2)
      · obtain ⟨g1, g2, g3⟩ := hfp b (.inr hb)
        refine ⟨Nat.lt_of_lt_of_le g1 hk.size, g2, fun fr hA => ?_⟩
        rcases hp.sub fr b hA.1 with h1 | h1
        · rcases h1 with h1 | h1
          · exact g3 fr h1
          · exact hA.2 h1.2
        · omega
    · simp only [fps_append]
      refine List.nodup_append.2 ⟨hp.nodup, List.nodup_append.2 ⟨hd2, hd3, hd4⟩, fun b hb c hc hbc => ?_⟩
      subst hbc
      have hc' := List.mem_append.1 hc
      rcases (hp.fp b hb).2.1 with g2 | g2
      · exact hrest b hc' g2
      · have := (hfp b (.inr hc')).1; omega
    · rcases List.mem_append.1 ho with ho | ho
      · rcases hfr with hfr | hfr
        · have : A2 = A' := by
            funext fr b
            simp [A2, hfr, fps]
          rw [this]; exact hp.own o ho
        · exact (hp.own o ho).flags (p := (· = true)) (fun fr b hf hb => by subst hf; exact ⟨hb, hA'O b hb⟩) ((hfr _ _ hR).2 o ho)
      · exact hokr o (List.mem_append.1 ho)
  refine hK r own' A2 w' hR (fun u y h => hmv2 h) (hres.perm (hmrg own')) e ?_
  cases r with
  | ret x =>
    obtain ⟨v, h1, h2⟩ := hr
    refine ⟨v, h1, ?_⟩
    rcases hfr with hfr | hfr
    · have : A2 = A' := by
        funext fr b
        simp [A2, hfr, fps]
      rw [this]; exact h2
    · exact h2.flags (p := (· = true)) (hfr _ _ hR).1 (fun fr b hf hb => by subst hf; exact ⟨hb, hA'O b hb⟩) fun _ _ _ _ => rfl
  | pan v => exact hr

theorem JL.callG (ms : List Cd) {f : FuncId} {fo : Operand} {fi ca : List Value} {l : List Operand} {tys : Array TypeId} {xs zs : List AV} {R : Res → List Own → Prop} {G : List (Value × AV)} (hf : goFn P f = true) (hd : Nat.blt d n = true)
    (hfo : Ev E ⟨n, env, own, F, D⟩ fo (.c (.func (.func f) fi.toArray ca.toArray))) (hG : Lent G (selL ms own)) (hargs : ∀ E', EvL E' ⟨n, env, selP ms own ++ selK ms own, G ++ F, D⟩ l xs) (hzs : fi.map AV.c ++ xs ++ ca.map AV.c = zs) (hAC : AC P f (selP ms own) zs R)
    (hfr : selL ms own = [] ∨ ∀ r o, R r o → FreshR r ∧ ∀ x ∈ o, OwnFl (· = true) x)
    (hret : ∀ x own', R (.ret x) own' → JL P E ops rest ⟨n, (d, x) :: env, mrg ms own' own, F, D⟩ Q)
    (hpan : ∀ v own', R (.pan v) own' → Q (.panic [{ v, recovered := false }]) ⟨n, env, mrg ms own' own, F, D⟩) :
    JL P E ops (⟨some d, .call ⟨.value fo, l.toArray, tys⟩, ty, pos, af, none⟩ :: rest) ⟨n, env, own, F, D⟩ Q := fun a w ⟨A, hA⟩ => by
  refine wpListIn_plain rfl fun K hK => ?_
  refine wpR (by intro c h; cases h) ?_
  unfold Oper.wp
  rw [run_call hf (hfo.eq hA), Oper.upon_enter]
  subst hzs
  refine SatA.callG ms hG hfr hA hargs hAC fun r own' A' w' hR _ hsat e hr => ?_
  cases r with
  | ret x =>
    obtain ⟨v, rfl, hv⟩ := hr
    exact hK _ _ (hret x own' hR _ _ ⟨A', hsat.put (blt_lt hd) hv⟩)
  | pan v =>
    obtain rfl := hr
    exact ⟨_, hpan v own' hR, A', hsat⟩

/-- The same of a function by its number. -/
theorem JL.callF (ms : List Cd) {f : FuncId} {l : List Operand} {tys : Array TypeId} {xs : List AV} {R : Res → List Own → Prop} {G : List (Value × AV)} (hf : goFn P f = true) (hd : Nat.blt d n = true)
    (hG : Lent G (selL ms own)) (hargs : ∀ E', EvL E' ⟨n, env, selP ms own ++ selK ms own, G ++ F, D⟩ l xs) (hAC : AC P f (selP ms own) xs R)
    (hfr : selL ms own = [] ∨ ∀ r o, R r o → FreshR r ∧ ∀ x ∈ o, OwnFl (· = true) x)
    (hret : ∀ x own', R (.ret x) own' → JL P E ops rest ⟨n, (d, x) :: env, mrg ms own' own, F, D⟩ Q)
    (hpan : ∀ v own', R (.pan v) own' → Q (.panic [{ v, recovered := false }]) ⟨n, env, mrg ms own' own, F, D⟩) :
    JL P E ops (⟨some d, .call ⟨.value (.func f), l.toArray, tys⟩, ty, pos, af, none⟩ :: rest) ⟨n, env, own, F, D⟩ Q :=
  JL.callG (fi := []) (ca := []) ms hf hd .func hG hargs (by simp) hAC hfr hret hpan

/-- A quiet call to which entries are lent. -/
theorem QW.callL (ms : List Cd) {f : FuncId} {fo : Operand} {fi ca : List Value} {l : List Operand} {tys : Array TypeId} {xs zs : List AV} {z : AV} {G : List (Value × AV)} (hf : goFn P f = true)
    (hfo : Ev E ⟨n, env, own, F, D⟩ fo (.c (.func (.func f) fi.toArray ca.toArray))) (hG : Lent G (selL ms own)) (hp : selP ms own = []) (hmo : mrg ms [] own = own) (hargs : ∀ E', EvL E' ⟨n, env, selP ms own ++ selK ms own, G ++ F, D⟩ l xs)
    (hzs : fi.map AV.c ++ xs ++ ca.map AV.c = zs) (h : Fn P f zs z) (hz : Fresh z) :
    QW P E ⟨n, env, own, F, D⟩ ⟨dd, .call ⟨.value fo, l.toArray, tys⟩, ty, pos, af, gd⟩ z := fun A a w hA K Qx hK => by
  refine wpR (by intro c h; cases h) ?_
  unfold Oper.wp
  rw [run_call hf (hfo.eq hA), Oper.upon_enter]
  subst hzs
  have h' : AC P f (selP ms own) (fi.map AV.c ++ xs ++ ca.map AV.c) fun r own' => r = .ret z ∧ own' = [] := by rw [hp]; exact h
  have hfr : ∀ (r : Res) (o : List Own), r = .ret z ∧ o = [] → FreshR r ∧ ∀ x ∈ o, OwnFl (· = true) x := fun r o ⟨h1, h2⟩ => by
    subst h1 h2; exact ⟨hz, fun x hx => by cases hx⟩
  refine SatA.callG ms hG (.inr hfr) hA hargs h' fun r own' A' w' ⟨h1, h2⟩ hfm hsat e hr => ?_
  subst h1 h2
  rw [hmo] at hsat
  obtain ⟨v, rfl, hv⟩ := hr
  exact hK v w' A' hfm hsat hv
theorem QW.callLF (ms : List Cd) {f : FuncId} {l : List Operand} {tys : Array TypeId} {xs : List AV} {z : AV} {G : List (Value × AV)} (hf : goFn P f = true)
    (hG : Lent G (selL ms own)) (hp : selP ms own = []) (hmo : mrg ms [] own = own) (hargs : ∀ E', EvL E' ⟨n, env, selP ms own ++ selK ms own, G ++ F, D⟩ l xs)
    (h : Fn P f xs z) (hz : Fresh z) :
    QW P E ⟨n, env, own, F, D⟩ ⟨dd, .call ⟨.value (.func f), l.toArray, tys⟩, ty, pos, af, gd⟩ z :=
  QW.callL (fi := []) (ca := []) ms hf .func hG hp hmo hargs (by simp) h hz

end
end Go.Proofs.Ytkiankpmkglhcaa.J
