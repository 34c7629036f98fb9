/- Texts of this proof, laid together. -/
import Derived.Test.YtlppnhkjonmniaaX2RExprOwn
import Derived.RangeFuncNested
import Derived.RangeFuncLeaves
import Derived.RangeFuncCalls
/- A range over a function: the loop's record, the rounds. -/
namespace Go.Proofs.Ytlppnhkjonmniaa.J
open Go Go.RowKit
set_option linter.unusedVariables false
set_option linter.unusedSimpArgs false
/-- What an iterator promises whose rounds all go on. -/
def SeqK {α : Type} (F : Fence) (n : Nat) (P : Program) (g : Nat) (lb : Array Value) (encs : α → Array Value) (Kp : World → World → Prop) (S : List α → Prop) (N : Nat) (w : World) : Prop :=
  ∀ (l : Nat) (J : List α → World → Prop) (W : World), Below w.heap.size w W → AbidesFrom W.heap.size J →
    (∀ pre x W1, J pre W1 → pre.length < N → YieldAt F (n - 1) P l (encs x) W1 fun e W' => e = .returned (.bool true) ∧ J (pre ++ [x]) W' ∧ Kp W1 W') →
    J [] W → CallsIn F n P g (#[.func (.yield l) #[] #[]] ++ lb) W fun e W' => (∃ v, e = .returned v) ∧ ∃ xs, S xs ∧ J xs W'
section
variable {F : Fence} {n : Nat} {P : Program}
/-- The kit's law of a range over a function, the assignment to the loop's variables and the body walked in one; the body always goes on. -/
theorem wpIn_rangeFunc_one {α : Type} {g : Operand} {ps : Array Tmp} {assign body : Code} {Q : Exit → Act → World → Prop} {a : Act} {w : World}
    (hro : F.round = none) (h1 : 1 ≤ n) {gf : Nat} {lb : Array Value} (hg : a.eval g = .func (.func gf) #[] lb) (hFg : F.fn gf) (eg : ∀ args w, (callFunc gf args).run P w = .ok (.enter gf args) w)
    {encs : α → Array Value} {Kp : World → World → Prop} {S : List α → Prop} {N : Nat} {w0 : World} (hseq : SeqK F (n - 1) P gf lb encs Kp S N w0)
    (hKt : ∀ {A B C : World}, Kp A B → Kp B C → Kp A C) (hKb : ∀ (W : World) (l : Nat) (o o' : Obj), w.heap.size ≤ l → W.heap[l]? = some o → o.isCells = false → o.isWalk = false → Kp W (W.putObj l o')) (hb0 : Below w0.heap.size w0 w) (hps : ∀ x, (encs x).size = ps.size)
    (I : List α → World → Prop) (hI : OwnFrom w.heap.size I) (h0 : I [] w)
    (hround : ∀ (l : Nat) (pre : List α) (x : α) (W : World), w.heap.size ≤ l → (∃ o : Obj, W.heap[l]? = some o ∧ o.isCells = false) → I pre W → pre.length < N →
      assign.wpIn (F.inRound l) (n - 1 - 1) P (Exit.then (fun a₁ W₁ => KeepsOthers W W₁ ∧ ∀ o' : Obj, o'.isCells = false →
          body.wpIn (F.inRound l) (n - 1 - 1) P (fun e _ W' => e = .normal ∧ KeepsOthers (W₁.putObj l o') W' ∧ Kp W W' ∧ I (pre ++ [x]) W') a₁ (W₁.putObj l o')) (fun _ _ _ => False))
        { tmps := (ps.zip (encs x)).foldl (fun t (p, v) => t.setIfInBounds p v) a.tmps, defers := [] } W)
    (hdone : ∀ (D : Nat) (xs : List α) (W : World), w.heap.size ≤ D → S xs → I xs W → W.heap[D]? = some (.deferred (some [])) → Q .normal { a with defers := { target := .collected D, args := #[] } :: a.defers } W) :
    (Code.rangeFunc g ps assign body).wpIn F n P Q a w := by
  refine wpIn_rangeFunc ?_
  intro fn hfn
  rw [hro]
  obtain ⟨rec, hrec⟩ : ∃ rec : LoopState → Option Code → Loop, rec = fun st pe => { state := st, pending := pe, fn, tmps := a.tmps, params := ps, assign, body, defers := w.heap.size } := ⟨_, rfl⟩
  obtain ⟨W1, hW1⟩ : ∃ W1, (w.alloc (.deferred (some []))).alloc (.loop (rec .ready none)) = W1 := ⟨_, rfl⟩
  have hL1 : W1.heap[w.heap.size + 1]? = some (.loop (rec .ready none)) := by
    rw [← hW1]; have := World.alloc_heap_new (w.alloc (.deferred (some []))) (.loop (rec .ready none)); rwa [World.size_alloc] at this
  have hK1 : W1.heap[w.heap.size]? = some (.deferred (some [])) := by
    rw [← hW1]; exact (Below.heap_alloc _ _ _ (by simp)).trans (World.alloc_heap_new w _)
  have hI1 : I [] W1 := by rw [← hW1]; exact hI.alloc _ (hI.alloc _ h0)
  have hb1 : Below w0.heap.size w0 W1 := by
    rw [← hW1]; exact hb0.trans ((((Below.refl _ w).alloc (Nat.le_refl _) _).alloc (by simp) _).mono hb0.size)
  refine ⟨w.heap.size + 1, [{ target := .collected w.heap.size, args := #[] }], W1, { target := .fn (.func gf) lb, args := #[.func (.yield (w.heap.size + 1)) #[] #[]] }, W1, gf,
    #[.func (.yield (w.heap.size + 1)) #[] #[]] ++ lb, W1, ?_, ?_, ?_, ?_, fun _ => h1, ?_⟩
  · rw [← hW1, hrec]; exact run_enterLoop_outer _ _ _ _ _
  · simp only [resolve, hg]
    simp [go_sem]
  · intro f' hf'; simp [Target.leads] at hf'; subst hf'; exact hFg
  · simp [invoke, go_sem, eg]
  · have hnw : ∀ {A B : World} {row : Option Nat}, (∀ r, row = some r → W1.heap.size ≤ r ∧ ∃ o : Obj, A.heap[r]? = some o ∧ o.isWalk = true) → (∀ r, row = some r → w.heap.size ≤ r ∧ ∃ o : Obj, A.heap[r]? = some o ∧ o.isCells = false) :=
      fun hr r e => by obtain ⟨hB, o, ho, hw⟩ := hr r e; exact ⟨by rw [← hW1] at hB; simp at hB; omega, o, ho, Obj.not_cells_of_walk hw⟩
    refine (hseq (w.heap.size + 1)
      (fun pre W => I pre W ∧ W.heap[w.heap.size + 1]? = some (.loop (rec .ready none)) ∧ W.heap[w.heap.size]? = some (.deferred (some [])))
      W1 hb1
      (fun s A B row hs hg' hr => ⟨hI s A B row hs.1 hg' (hnw (B := B) hr), (grownBy_keeps hg' (fun r e => (hr r e).2) hs.2.1 rfl).trans hs.2.1, (grownBy_keeps hg' (fun r e => (hr r e).2) hs.2.2 rfl).trans hs.2.2⟩)
      ?_ ⟨hI1, hL1, hK1⟩).mono ?_
    · rintro pre x W ⟨hi, hl, hk⟩ hlen
      have hlt : w.heap.size + 1 < W.heap.size := (Array.getElem?_eq_some_iff.1 hl).1
      have hy := run_yield (P := P) (args := encs x) hl (by rw [hrec]; exact hps x)
      rw [hrec] at hy
      refine ⟨fn, _, assign, body, hy, roundIn_of_wpIn hfn (wpIn_mono (hround _ pre x W (by omega) ⟨_, hl, rfl⟩ hi hlen) ?_)⟩
      rintro e a1 W2 hp
      cases e with
      | normal =>
        obtain ⟨ho1, hbody⟩ := hp
        have hlA := ho1.same _ _ hl rfl
        have hkA := ho1.same _ _ hk rfl
        have hltA : w.heap.size + 1 < W2.heap.size := (Array.getElem?_eq_some_iff.1 hlA).1
        refine ⟨_, run_beginRound hlA (by rw [hrec]), ?_⟩
        have hl2 : (W2.putObj (w.heap.size + 1) (.loop { rec .ready none with state := .busy })).heap[w.heap.size + 1]? = some (.loop { rec .ready none with state := .busy }) := World.putObj_heap_same hltA
        have hk2 : (W2.putObj (w.heap.size + 1) (.loop { rec .ready none with state := .busy })).heap[w.heap.size]? = some (.deferred (some [])) := (World.putObj_heap_other (by omega)).trans hkA
        refine wpIn_mono (hbody _ rfl) ?_
        rintro e a3 W3 ⟨rfl, hk3, hkp3, hi3⟩
        have hl3 := hk3.same _ _ hl2 rfl
        have hr := run_endRound (P := P) none hl3
        refine ⟨_, _, hr, ⟨rfl, ⟨hI.putObj _ hi3 (by omega) hl3 rfl, ?_, (World.putObj_heap_other (by omega)).trans (hk3.same _ _ hk2 rfl)⟩, hKt hkp3 (hKb _ _ _ _ (by omega) hl3 rfl rfl)⟩⟩
        rw [World.putObj_heap_same (Array.getElem?_eq_some_iff.1 hl3).1, hrec]
        rfl
      | ret => exact hp.elim
      | exit id => exact hp.elim
      | goto t => exact hp.elim
      | panic ch => exact hp.elim
      | outgrown => exact hp.elim
    · rintro e W2 ⟨⟨v, rfl⟩, ⟨xs, hS, hi, hl, hk⟩⟩
      · exact ⟨none, _, by have := run_endLoop (P := P) hl (by rw [hrec]; simp); rw [hrec] at this; exact this, hdone _ xs _ (Nat.le_refl _) hS (hI.putObj _ hi (by omega) hl rfl) ((World.putObj_heap_other (by omega)).trans hk)⟩
end
/-! ### what a turn of a block that is no cells leaves -/
def isC (w : World) (b : Nat) : Prop := ∃ cs t fz, w.heap[b]? = some (.cells cs t fz)
theorem Rd.foot {w : World} {A A' : Foot} (hA : ∀ fr b, A fr b → isC w b → A' fr b) {v : Value} {x : AV} (h : Rd w A v x) : Rd w A' v x := by
  induction h with
  | c v => exact .c v
  | emp fr clip e a cap hc => exact .emp fr clip e a cap hc
  | sl fr clip e xs b off cap cs t fz u hAb hb hcap hclip hsz hreach hu hr ih => exact .sl fr clip e xs b off cap cs t fz u (hA _ _ hAb ⟨_, _, _, hb⟩) hb hcap hclip hsz hreach hu ih
  | ref fr ys b off cs t fz u hAb hb hu hr ih => exact .ref fr ys b off cs t fz u (hA _ _ hAb ⟨_, _, _, hb⟩) hb hu ih
  | agg vs ys u hn hu hr ih => exact .agg vs ys u hn hu ih
  | tup vs ys u hn hu hr ih => exact .tup vs ys u hn hu ih
  | wh t v x h h0 ih => exact .wh t v x ih h0
  | gp b o n cap off => exact .gp b o n cap off
theorem Cells.foot {w : World} {A A' : Foot} (hA : ∀ fr b, A fr b → isC w b → A' fr b) {us : Array Value} {off : Nat} {ys : List AV} (h : Cells w A us off ys) : Cells w A' us off ys :=
  fun k y hk => let ⟨u, h1, h0, h2⟩ := h k y hk; ⟨u, h1, h0, h2.foot hA⟩
mutual
theorem Own.ok.foot {w : World} {A A' : Foot} (hA : ∀ fr b, A fr b → isC w b → A' fr b) : ∀ {o : Own}, o.ok w A → o.ok w A'
  | .box b ys, h => by
    simp only [Own.ok] at h ⊢
    obtain ⟨us, t, h1, h2, h3⟩ := h
    exact ⟨us, t, h1, h2, h3.foot hA⟩
  | .arr v e xs, h => by
    simp only [Own.ok] at h ⊢
    rcases h with h | ⟨b, cap, us, t, hv, h1, h2, h3, h4, h5⟩
    · exact .inl h
    · exact .inr ⟨b, cap, us, t, hv, h1, h2, h3, h4, h5.foot hA⟩
  | .grp l, h => by
    simp only [Own.ok] at h ⊢
    exact Own.okl.foot hA h
theorem Own.okl.foot {w : World} {A A' : Foot} (hA : ∀ fr b, A fr b → isC w b → A' fr b) : ∀ {l : List Own}, Own.okl w A l → Own.okl w A' l
  | [], _ => by simp [Own.okl]
  | o :: l, h => by
    simp only [Own.okl] at h ⊢
    exact ⟨Own.ok.foot hA h.1, Own.okl.foot hA h.2⟩
end
mutual
theorem Own.ok.isC {w : World} {A : Foot} : ∀ {o : Own}, o.ok w A → ∀ b ∈ o.fp, isC w b
  | .box b ys, h, b', hb => by
    simp only [Own.ok] at h
    obtain ⟨us, t, h1, _⟩ := h
    simp [Own.fp] at hb
    subst hb
    exact ⟨_, _, _, h1⟩
  | .arr v e xs, h, b', hb => by
    simp only [Own.ok] at h
    rcases h with ⟨a, rfl, rfl⟩ | ⟨b, cap, us, t, rfl, h1, _⟩
    · cases a <;> simp [Own.fp, arrFp] at hb
    · simp [Own.fp, arrFp] at hb
      subst hb
      exact ⟨_, _, _, h1⟩
  | .grp l, h, b', hb => by
    simp only [Own.ok] at h
    exact Own.okl.isC h b' (by simpa [Own.fp] using hb)
theorem Own.okl.isC {w : World} {A : Foot} : ∀ {l : List Own}, Own.okl w A l → ∀ b ∈ Own.fpl l, isC w b
  | [], _, b', hb => by simp [Own.fpl] at hb
  | o :: l, h, b', hb => by
    simp only [Own.okl] at h
    simp only [Own.fpl, List.mem_append] at hb
    exact hb.elim (Own.ok.isC h.1 b') (Own.okl.isC h.2 b')
end
section
variable {E : Ent} {A : Foot} {st : St} {a : Act} {w w' : World}
theorem SatA.shrink (h : SatA E A st a w) (B : Nat) (hlt : ∀ fr b, E.A0 fr b → b < B ∨ isC w b) : SatA E (fun fr b => A fr b ∧ (b < B ∨ isC w b)) st a w := by
  have hA : ∀ fr b, A fr b → isC w b → (A fr b ∧ (b < B ∨ isC w b)) := fun _ _ h1 h2 => ⟨h1, .inr h2⟩
  refine ⟨h.size, h.defers, h.keep, ⟨fun b hb => ⟨h.hp.mono b hb.1, hb.2⟩, fun fr b hb => ⟨h.hp.sup fr b hb, hlt fr b hb⟩, fun fr b hb => h.hp.sub fr b hb.1, fun fr b hb => h.hp.lt fr b hb.1, fun b hb => ?_, h.hp.nodup, fun o ho => (h.hp.own o ho).foot hA⟩,
    fun i x hx => (h.env i x hx).foot hA, fun p hp => (h.facts p hp).foot hA⟩
  obtain ⟨h1, h2, h3⟩ := h.hp.fp b hb
  exact ⟨h1, h2, fun fr hx => h3 fr hx.1⟩
theorem SatA.still {B : Nat} {row : Option Nat} (h : SatA E A st a w) (hA : ∀ fr b, A fr b → b < B ∨ isC w b) (hg : w.grownBy w' row) (hr : ∀ r, row = some r → B ≤ r ∧ ∃ o : Obj, w.heap[r]? = some o ∧ o.isCells = false) :
    (∀ fr b, A fr b → b < w.heap.size → w'.heap[b]? = w.heap[b]?) ∧ (∀ b ∈ fps st.own, w'.heap[b]? = w.heap[b]?) := by
  have hnc : ∀ b, isC w b → row ≠ some b := fun b ⟨cs, t, fz, hb⟩ e => by
    obtain ⟨_, o, ho, hc⟩ := hr b e
    rw [hb] at ho; cases ho; cases hc
  refine ⟨fun fr b hb hlt => hg.block b hlt ?_, fun b hb => ?_⟩
  · rcases hA fr b hb with h1 | h1
    · intro e; have := (hr b e.symm).1; omega
    · exact fun e => hnc b h1 e.symm
  · obtain ⟨o, ho, hbo⟩ := List.mem_flatMap.1 hb
    exact hg.block b (h.hp.fp b hb).1 (fun e => hnc b ((h.hp.own o ho).isC b hbo) e.symm)
theorem SatA.turn {B : Nat} {row : Option Nat} (h : SatA E A st a w) (hA : ∀ fr b, A fr b → b < B ∨ isC w b) (hB : E.w0.heap.size ≤ B) (hg : w.grownBy w' row) (hr : ∀ r, row = some r → B ≤ r ∧ ∃ o : Obj, w.heap[r]? = some o ∧ o.isCells = false) : SatA E A st a w' := by
  obtain ⟨hAs, hOs⟩ := h.still hA hg hr
  have hid : ∀ fr b, A fr b → b < w.heap.size → A fr b := fun _ _ h _ => h
  refine ⟨h.size, h.defers, ?_, ⟨h.hp.mono, h.hp.sup, h.hp.sub, fun fr b hb => Nat.lt_of_lt_of_le (h.hp.lt fr b hb) hg.size, fun b hb => ?_, h.hp.nodup, fun o ho => (h.hp.own o ho).move hid hAs (fun b hb => hOs b (fps_mem ho hb))⟩,
    fun i x hx => (h.env i x hx).move hid hAs, fun p hp => (h.facts p hp).move hid hAs⟩
  · have hk := h.keep
    refine ⟨hg.os.trans hk.os, hg.tape.trans hk.tape, hg.output.trans hk.output, Nat.le_trans hk.size hg.size, fun k hk1 hk2 => (hg.block k (Nat.lt_of_lt_of_le hk1 hk.size) ?_).trans (hk.block k hk1 hk2)⟩
    intro e; have := (hr k e.symm).1; omega
  · obtain ⟨h1, h2, h3⟩ := h.hp.fp b hb
    exact ⟨Nat.lt_of_lt_of_le h1 hg.size, h2, h3⟩
/-- Said anew from where it stands, behind a turn. -/
theorem SatA.anew {B : Nat} {row : Option Nat} (rd : Option Nat) (h : SatA E A st a w) (hA : ∀ fr b, A fr b → b < B ∨ isC w b) (hg : w.grownBy w' row) (hr : ∀ r, row = some r → B ≤ r ∧ ∃ o : Obj, w.heap[r]? = some o ∧ o.isCells = false) : SatA ⟨w', fps st.own, A, rd⟩ A st a w' := by
  obtain ⟨hAs, hOs⟩ := h.still hA hg hr
  have hid : ∀ fr b, A fr b → b < w.heap.size → A fr b := fun _ _ h _ => h
  refine ⟨h.size, h.defers, .refl _ _, ⟨h.hp.mono, fun _ _ h => h, fun _ _ h => .inl h, fun fr b hb => Nat.lt_of_lt_of_le (h.hp.lt fr b hb) hg.size, fun b hb => ?_, h.hp.nodup, fun o ho => (h.hp.own o ho).move hid hAs (fun b hb => hOs b (fps_mem ho hb))⟩,
    fun i x hx => (h.env i x hx).move hid hAs, fun p hp => (h.facts p hp).move hid hAs⟩
  obtain ⟨h1, h2, h3⟩ := h.hp.fp b hb
  exact ⟨Nat.lt_of_lt_of_le h1 hg.size, .inl hb, h3⟩
theorem frm_turn {B : Nat} {row : Option Nat} (h : SatA E A st a w) (hA : ∀ fr b, A fr b → b < B ∨ isC w b) (hg : w.grownBy w' row) (hr : ∀ r, row = some r → B ≤ r ∧ ∃ o : Obj, w.heap[r]? = some o ∧ o.isCells = false) : Frm w A w' A :=
  fun u y hr' => hr'.move (fun _ _ h _ => h) (h.still hA hg hr).1
/-- What a round's own steps keep. -/
theorem keep_others {fp : List Nat} {w w' : World} (h : Keep fp w w') (hC : ∀ b ∈ fp, isC w b) : KeepsOthers w w' :=
  ⟨h.size, fun k o hk hc => (h.block k (heap_lt hk) fun hm => by
    obtain ⟨cs, t, fz, hb⟩ := hC k hm
    rw [hb] at hk; cases hk; cases hc).trans hk⟩
theorem SatA.ownC (h : SatA E A st a w) : ∀ b ∈ fps st.own, isC w b := fun b hb => by
  obtain ⟨o, ho, hbo⟩ := List.mem_flatMap.1 hb
  exact (h.hp.own o ho).isC b hbo
end
section
variable {P : Program} {E : Ent} {A : Foot} {a : Act} {w : World} {n : Nat} {env : List (Nat × AV)} {F : List (Value × AV)} {D : List Deferred}
/-- What a round leaves of the world: other blocks of cells, and whatever lay ahead of B. -/
structure KeptC (B : Nat) (fp : List Nat) (w w' : World) : Prop where
  os : w'.os = w.os
  tape : w'.tape = w.tape
  output : w'.output = w.output
  size : w.heap.size ≤ w'.heap.size
  block : ∀ k, k < w.heap.size → (isC w k ∨ k < B) → k ∉ fp → w'.heap[k]? = w.heap[k]?
/-- A range over a function with one variable, in states: the state that the rounds turn is σ; a round's assignment ends in M, the body behind it in p again. -/
theorem range_wp {α β : Type} {ow : β → List Own} {p : List α → β → Prop} {σ0 : β} (hrd : E.rd = none) (hfp : E.fp0 = []) (hs : SatA E A ⟨n, env, ow σ0, F, D⟩ a w) (hp0 : p [] σ0)
    {g : Operand} {ps : Array Tmp} {assign body : Code} {gf : Nat} {lb : Array Value} (hg : a.eval g = .func (.func gf) #[] lb) (hgo : goFn P gf = true) {pt : Tmp} (hps : ps = #[pt]) (hpt : Nat.blt pt n = true)
    {val : α → Value} {av : α → AV} (hav : ∀ x, Rd w A (val x) (av x)) {S : List α → Prop} {N : Nat} {Kp : World → World → Prop} (hKt : ∀ {A B C : World}, Kp A B → Kp B C → Kp A C) (hKb : ∀ (W : World) (l : Nat) (o o' : Obj), w.heap.size ≤ l → W.heap[l]? = some o → o.isCells = false → o.isWalk = false → Kp W (W.putObj l o'))
    (hK : ∀ W W' σ σ' A1 A2, SatA E A1 ⟨n, env, ow σ, F, D⟩ a W → SatA E A2 ⟨n, env, ow σ', F, D⟩ a W' → (∀ b ∈ fps (ow σ'), b ∈ fps (ow σ) ∨ W.heap.size ≤ b) → KeptC w.heap.size (fps (ow σ)) W W' → Kp W W')
    (hseq : SeqK Fence.wide 1 P gf lb (fun x => #[val x]) Kp S N w)
    (M : List α → α → St → Prop)
    (hassign : ∀ l w1 A1 pre x σ, p pre σ → pre.length < N → J P ⟨w1, fps (ow σ), A1, some l⟩ assign ⟨n, (pt, av x) :: env, ow σ, F, []⟩ (fun e s => e = .normal ∧ M pre x s))
    (hbody : ∀ l w1 A1 pre x s, M pre x s → pre.length < N → J P ⟨w1, fps s.own, A1, some l⟩ body s (fun e s' => e = .normal ∧ ∃ σ' dr, p (pre ++ [x]) σ' ∧ s'.own.Perm (ow σ' ++ dr)))
    {Q : Exit → Act → World → Prop}
    (hdone : ∀ D' xs σ A' W, S xs → p xs σ → w.heap.size ≤ D' → W.heap[D']? = some (.deferred (some [])) → SatA E A' ⟨n, env, ow σ, F, { target := .collected D', args := #[] } :: D⟩ { a with defers := { target := .collected D', args := #[] } :: a.defers } W →
      Q .normal { a with defers := { target := .collected D', args := #[] } :: a.defers } W) :
    (Code.rangeFunc g ps assign body).wpIn (fen E.rd) 0 P Q a w := by
  rw [hrd]
  have key : (Code.rangeFunc g ps assign body).wpIn Fence.wide 2 P Q a w := by
    have hA0 : ∀ (W : World) fr b, E.A0 fr b → b < w.heap.size ∨ isC W b := fun W fr b hb => .inl (hs.hp.lt fr b (hs.hp.sup fr b hb))
    have hn0 : ∀ {A' : Foot} {st : St} {a' : Act} {W : World}, SatA E A' st a' W → ∀ b ∈ fps st.own, E.w0.heap.size ≤ b := fun h b hb => by
      rcases (h.hp.fp b hb).2.1 with h1 | h1
      · rw [hfp] at h1; cases h1
      · exact h1
    refine wpIn_rangeFunc_one (w0 := w) rfl (by decide) hg trivial (goFn_run hgo) hseq hKt hKb (Below.refl _ _) (fun x => by rw [hps]; rfl)
      (fun pre W => ∃ σ A', p pre σ ∧ SatA E A' ⟨n, env, ow σ, F, D⟩ a W ∧ (∀ fr b, A' fr b → b < w.heap.size ∨ isC W b) ∧ Frm w A W A') ?_ ⟨σ0, A, hp0, hs, fun fr b hb => .inl (hs.hp.lt fr b hb), Frm.refl _ _⟩ ?_ ?_
    · rintro pre W W' row ⟨σ, A', hp, hsat, hft, hfr⟩ hg' hr
      refine ⟨σ, A', hp, hsat.turn hft hs.keep.size hg' hr, fun fr b hb => ?_, fun u y h => frm_turn hsat hft hg' hr u y (hfr u y h)⟩
      rcases hft fr b hb with h | ⟨cs, t, fz, h⟩
      · exact .inl h
      · exact .inr ⟨cs, t, fz, ((hsat.still hft hg' hr).1 fr b hb (hsat.hp.lt fr b hb)).trans h⟩
    · rintro l pre x W hl ⟨o, ho, hoc⟩ ⟨σ, A', hp, hsat, hft, hfr⟩ hlen
      have hsA : SatA ⟨W, fps (ow σ), A', some l⟩ A' ⟨n, (pt, av x) :: env, ow σ, F, []⟩ { tmps := (ps.zip #[val x]).foldl (fun t (p, v) => t.setIfInBounds p v) a.tmps, defers := [] } W := by
        subst hps
        have hz : ((#[pt] : Array Tmp).zip #[val x]).foldl (fun t (p, v) => t.setIfInBounds p v) a.tmps = a.tmps.setIfInBounds pt (val x) := by simp
        rw [hz]
        refine ⟨by simp [hsat.size], rfl, .refl _ _, SatA.callee (E := E) (op := ow σ) (ro := []) (a := a) (n := n) (env := env) (F := F) (D := D) (by rw [List.append_nil]; exact hsat), fun i y hy => ?_, hsat.facts⟩
        have hps' : pt < a.tmps.size := by rw [hsat.size]; exact Nat.lt_of_lt_of_le (by simpa using hpt) (Nat.le_refl _)
        by_cases hi : i = pt
        · subst hi
          have : y = av x := by simpa [lk] using hy.symm
          subst this
          simp [Array.getD_eq_getD_getElem?, Array.getElem?_setIfInBounds, hps']
          exact hfr _ _ (hav x)
        · have hy' : lk env i = some y := by
            have hb : Nat.beq pt i = false := by
              cases hb : Nat.beq pt i with
              | false => rfl
              | true => exact absurd (Nat.eq_of_beq_eq_true hb).symm hi
            rw [← hy]
            show lk env i = lk ((pt, av x) :: env) i
            simp only [lk, hb]
          have := hsat.env i y hy'
          simp only [Array.getD_eq_getD_getElem?] at this ⊢
          rw [Array.getElem?_setIfInBounds_ne (fun e => hi e.symm)]
          exact this
      refine wpIn_mono (hassign l W A' pre x σ hp hlen _ W ⟨A', hsA⟩) ?_
      rintro e a1 W1 ⟨s, ⟨rfl, hM⟩, A1, h1⟩
      have hCW := hsat.ownC
      have hko := keep_others h1.keep hCW
      have hl1 : W1.heap[l]? = some o := hko.same l o ho hoc
      refine ⟨hko, fun o' ho' => ?_⟩
      have hsub : ∀ fr b, A' fr b → b < w.heap.size ∨ isC W1 b := fun fr b hb => by
        rcases hft fr b hb with h | ⟨cs, t, fz, h⟩
        · exact .inl h
        · exact .inr ⟨cs, t, fz, (h1.keep.block b (heap_lt h) fun hm => (hsat.hp.fp b hm).2.2 fr hb).trans h⟩
      have hg' : W1.grownBy (W1.putObj l o') (some l) := grownBy_putObj' W1 l o'
      have hrow : ∀ r, some l = some r → w.heap.size ≤ r ∧ ∃ o : Obj, W1.heap[r]? = some o ∧ o.isCells = false := fun r e => by cases e; exact ⟨hl, o, hl1, hoc⟩
      have h2 := h1.shrink w.heap.size hsub
      have h3 := h2.anew (some l) (fun fr b hb => hb.2) hg' hrow
      refine wpIn_mono (hbody l _ _ pre x s hM hlen a1 _ ⟨_, h3⟩) ?_
      rintro e a3 W3 ⟨s3, ⟨rfl, σ', dr, hp', hperm⟩, A3, h4⟩
      have c1 : SatA E A1 ⟨n, env, s.own, F, D⟩ a W1 := by
        have := SatA.called (E := E) (op := ow σ) (ro := []) (n := n) (env := env) (F := F) (D := D) (by rw [List.append_nil]; exact hsat) h1.keep h1.hp
        rwa [List.append_nil] at this
      have c2 := c1.shrink w.heap.size (hA0 _)
      have c3 := c2.turn (fun fr b hb => hb.2) hs.keep.size hg' hrow
      have c4 : SatA E A3 ⟨n, env, s3.own, F, D⟩ a W3 := by
        have := SatA.called (E := E) (op := s.own) (ro := []) (n := n) (env := env) (F := F) (D := D) (by rw [List.append_nil]; exact c3) h4.keep h4.hp
        rwa [List.append_nil] at this
      have c5 := c4.perm hperm
      have c6 : SatA E A3 ⟨n, env, ow σ', F, D⟩ a W3 := ⟨c5.size, c5.defers, c5.keep, c5.hp.left, c5.env, c5.facts⟩
      have c7 := c6.shrink w.heap.size (hA0 _)
      have hfp1 : ∀ b ∈ fps s.own, b ∈ fps (ow σ) ∨ W.heap.size ≤ b := fun b hb => (h1.hp.fp b hb).2.1
      have hsz1 : (W1.putObj l o').heap.size = W1.heap.size := by simp
      have hfp3 : ∀ b ∈ fps (ow σ'), b ∈ fps (ow σ) ∨ W.heap.size ≤ b := fun b hb => by
        rcases (h4.hp.fp b ((fps_perm hperm).mem_iff.2 (by rw [fps_append]; exact List.mem_append_left _ hb))).2.1 with h | h
        · exact hfp1 b h
        · exact .inr (Nat.le_trans h1.keep.size (by rw [← hsz1]; exact h))
      have hkc : KeptC w.heap.size (fps (ow σ)) W W3 := ⟨h4.keep.os.trans (hg'.os.trans h1.keep.os), h4.keep.tape.trans (hg'.tape.trans h1.keep.tape), h4.keep.output.trans (hg'.output.trans h1.keep.output), Nat.le_trans h1.keep.size (Nat.le_trans hg'.size h4.keep.size), fun k hk hc hnm => by
        have e1 := h1.keep.block k hk hnm
        have hkl : k ≠ l := fun e => by
          rcases hc with ⟨cs, t, fz, hc⟩ | hc
          · rw [e, ho] at hc; cases hc; cases hoc
          · omega
        have e2 := hg'.block k (Nat.lt_of_lt_of_le hk h1.keep.size) (fun e => hkl (by cases e; rfl))
        have e3 := h4.keep.block k (by rw [hsz1]; exact Nat.lt_of_lt_of_le hk h1.keep.size) (fun hm => (hfp1 k hm).elim hnm (fun h => by omega))
        exact e3.trans (e2.trans e1)⟩
      refine ⟨rfl, keep_others h4.keep h3.ownC, hK W W3 σ σ' _ _ hsat c7 hfp3 hkc, σ', _, hp', c7, fun fr b hb => hb.2, fun u y hu => ?_⟩
      have r1 := SatA.called_frame (E := E) (op := ow σ) (ro := []) (n := n) (env := env) (F := F) (D := D) (by rw [List.append_nil]; exact hsat) h1.keep h1.hp u y (hfr u y hu)
      have r2 : Rd W1 (fun fr b => A1 fr b ∧ (b < w.heap.size ∨ isC W1 b)) u y := r1.foot fun _ _ q1 q2 => ⟨q1, .inr q2⟩
      have r3 := frm_turn c2 (fun fr b hb => hb.2) hg' hrow u y r2
      have r4 := SatA.called_frame (E := E) (op := s.own) (ro := []) (n := n) (env := env) (F := F) (D := D) (by rw [List.append_nil]; exact c3) h4.keep h4.hp u y r3
      exact r4.foot fun _ _ q1 q2 => ⟨q1, .inr q2⟩
    · rintro D' xs W hD hS ⟨σ, A', hp, hsat, _, _⟩ hW
      exact hdone D' xs σ A' W hS hp hD hW ⟨hsat.size, by rw [hsat.defers], hsat.keep, hsat.hp, hsat.env, hsat.facts⟩
  exact (wpIn_wide (n := 0)).2 ((wpIn_wide (n := 2)).1 key)
end
/-! ### a function that holds a range over a function -/
section
variable {P : Program} {E : Ent} {n : Nat} {env : List (Nat × AV)} {F : List (Value × AV)} {own : List Own}
/-- How its body may end: as ever, or with one mark among the deferred calls. -/
def postM (P : Program) (E : Ent) (fn : Func) (R : Res → List Own → Prop) (e : Exit) (a : Act) (w : World) : Prop :=
  (e = .normal ∨ e = .ret) ∧ ∃ A s x own' dr, SatA E A s a w ∧ RetEv P fn s x ∧ s.own.Perm (own' ++ dr) ∧ R (.ret x) own' ∧
    (s.dfs = [] ∨ ∃ D', s.dfs = [{ target := .collected D', args := #[] }] ∧ w.heap[D']? = some (.deferred (some [])) ∧ E.w0.heap.size ≤ D')
theorem AC.of_JM {f : FuncId} {fn : Func} {c : Code} {N : Nat} {xs : List AV} {R : Res → List Own → Prop} (hf : P.funcs[f]? = some fn) (hb : fn.body = some c) (hN : fn.ntmps = N) (hlen : Nat.ble xs.length N = true)
    (h : ∀ w0 A0 a, (∀ fr b, A0 fr b → b < w0.heap.size) → SatA ⟨w0, fps own, A0, none⟩ A0 ⟨N, initEnv 0 xs, own, [], []⟩ a w0 → c.wpIn (fen none) 0 P (postM P ⟨w0, fps own, A0, none⟩ fn R) a w0) : AC P f own xs R := fun w A0 vs hp hargs => by
  refine (callsIn_wide (n := 0)).1 (callsIn_of_wp_marks hf hb trivial ?_ rfl)
  subst hN
  have hlt : ∀ fr b, A0 fr b → b < w.heap.size := fun fr b hb => hp.lt fr b hb
  refine wpIn_mono (h w A0 _ hlt (init_sat hp hargs (Nat.le_of_ble_eq_true hlen))) ?_
  rintro e a' w' ⟨he, A, s, x, own', dr, hs, hx, hperm, hR, hd⟩
  have hl : LeavesInM Fence.wide 0 P fn a'.tmps (fun e w' => ∃ r own' A, R r own' ∧ Keep (fps own) w w' ∧ Hp w.heap.size (fps own) A0 own' w' A ∧ RdE w' A e r) a'.defers .returning w' := by
    have fin : ∀ {A' : Foot} {w2 : World}, SatA ⟨w, fps own, A0, none⟩ A' s a' w2 → ∃ v, (results fn a'.tmps).run P w2 = .ok v w2 ∧ ∃ r own' A, R r own' ∧ Keep (fps own) w w2 ∧ Hp w.heap.size (fps own) A0 own' w2 A ∧ RdE w2 A (.returned v) r := fun {A'} {w2} h2 => by
      obtain ⟨v, g1, g2⟩ := hx _ A' a' w2 h2
      exact ⟨v, g1, .ret x, own', A', hR, h2.keep, (h2.hp.perm hperm).left, v, rfl, g2⟩
    rw [hs.defers]
    rcases hd with hd | ⟨D', hd, hD, hB⟩
    · rw [hd]; exact fin hs
    · rw [hd]
      refine ⟨by simp, .inl ⟨D', _, rfl, run_takeDeferred hD, ?_⟩⟩
      have h2 := hs.shrink w.heap.size (fun fr b hb => .inl (hlt fr b hb))
      exact fin (h2.turn (fun fr b hb => hb.2) (Nat.le_refl _) (grownBy_putObj' w' D' (.deferred none)) (fun r e => by cases e; exact ⟨hB, _, hD, rfl⟩))
  rcases he with rfl | rfl
  · exact hl
  · exact hl
/-- A path without a loop. -/
theorem postM_of_retQ {fn : Func} {R : Res → List Own → Prop} {e : Exit} {a : Act} {w : World} (hnp : ∀ v own', ¬ R (.pan v) own') (h : lift E (retQ P fn R) e a w) : postM P E fn R e a w := by
  obtain ⟨s, hq, A, hs⟩ := h
  cases e with
  | normal => obtain ⟨x, own', dr, h1, h2, h3, h4⟩ := hq; exact ⟨.inl rfl, A, s, x, own', dr, hs, h1, h3, h4, .inl h2⟩
  | ret => obtain ⟨x, own', dr, h1, h2, h3, h4⟩ := hq; exact ⟨.inr rfl, A, s, x, own', dr, hs, h1, h3, h4, .inl h2⟩
  | panic chain => obtain ⟨v, own', dr, h1, h2, h3, h4⟩ := hq; exact absurd h4 (hnp _ _)
  | exit id => exact hq.elim
  | goto l => exact hq.elim
  | outgrown => exact hq.elim
end
end Go.Proofs.Ytlppnhkjonmniaa.J

/- An iterator that is walked: lists of operations and code with a post of their own, rounds called, what a round leaves. -/
namespace Go.Proofs.Ytlppnhkjonmniaa.J
open Go Go.RowKit
set_option linter.unusedVariables false
set_option linter.unusedSimpArgs false
section
variable {P : Program} {E : Ent} {n : Nat} {env : List (Nat × AV)} {own : List Own} {F : List (Value × AV)} {D : List Deferred} {ops : Array Oper} {o : Oper} {rest : List Oper} {d : Nat} {Qr : Exit → Act → World → Prop}
/-- A list of operations, with a post of any kind. -/
def JLr (P : Program) (E : Ent) (ops : Array Oper) (l : List Oper) (st : St) (Qr : Exit → Act → World → Prop) : Prop := ∀ a w, Sat E st a w → wpListIn (fen E.rd) 0 P ops Qr l a w
theorem JLr.q {x : AV} (hg : o.guard = none) (hd : o.dst = some d) (hn : Nat.blt d n = true) (hq : QW P E ⟨n, env, own, F, D⟩ o x)
    (h : JLr P E ops rest ⟨n, (d, x) :: env, own, F, D⟩ Qr) : JLr P E ops (o :: rest) ⟨n, env, own, F, D⟩ Qr := fun a w ⟨A, hA⟩ =>
  wpListIn_plain hg fun K hK => hq A a w hA K Qr fun v w' A' _ hA' hr => hK _ _ (by
    rw [hd]
    exact h _ _ ⟨A', hA'.put (blt_lt hn) hr⟩)
theorem JLr.nil {st : St} (h : ∀ a w, Sat E st a w → Qr .normal a w) : JLr P E ops [] st Qr := fun a w hs => wpListIn_nil (h a w hs)
theorem JLr.pre {st : St} {l : List Oper} (h : ∀ A a w, SatA E A st a w → wpListIn (fen E.rd) 0 P ops Qr l a w) : JLr P E ops l st Qr := fun a w ⟨A, hA⟩ => h A a w hA
theorem JLr.region_lit {id : Nat} {l : List Oper} {st : St} (h : JLr P E l.toArray l st Qr) (a : Act) (w : World) (hs : Sat E st a w) : (Code.region id l.toArray false).wpIn (fen E.rd) 0 P Qr a w := wpIn_region_lit (h a w hs)
end
section
variable {P : Program} {ops : Array Oper} {rest : List Oper} {d : Nat} {Qr : Exit → Act → World → Prop} {a : Act} {w : World} {ty : TypeId} {pos : String} {af : Array Edge} {tys : Array TypeId}
/-- The loop's body is called. -/
theorem wp_yield {l : Nat} {fo x : Operand} {v : Value} {R : Ending → World → Prop} (hfo : a.eval fo = .func (.yield l) #[] #[]) (hx : a.eval x = v) (hy : YieldAt Fence.wide 0 P l #[v] w R)
    (h : ∀ e W', R e W' → ∃ u, e = .returned u ∧ wpListIn (fen none) 0 P ops Qr rest (a.put (some d) u) W') :
    wpListIn (fen none) 0 P ops Qr (⟨some d, .call ⟨.value fo, #[x], tys⟩, ty, pos, af, none⟩ :: rest) a w := by
  obtain ⟨fn, tmps, assign, body, hy, hR⟩ := hy
  refine wpListIn_plain rfl fun K hK => ⟨fun _ _ => trivial, ?_⟩
  rw [Oper.semAt_eq _ _ _ (by intro c h; cases h)]
  have hrun : (execOp a.eval ⟨some d, .call ⟨.value fo, #[x], tys⟩, ty, pos, af, none⟩).run P w = .ok (.round l fn tmps assign body) w := by
    simp only [execOp, resolve, hfo, Deferred.ofValue, Sem.run_bind, Sem.run_pure, Result.andThen_ok, invoke]
    simpa [hx] using hy
  rw [hrun]
  refine ⟨fun h => (by cases h), hR.1, fun c cs hr => ?_⟩
  obtain ⟨e, w', r, s⟩ := hR.2 c cs (room_wide _)
  obtain ⟨u, rfl, hu⟩ := h e w' r
  exact ⟨.returned u, w', hK _ _ hu, s⟩
/-- A function is called, with a post of its own. -/
theorem wp_call {f : FuncId} (hf : goFn P f = true) {l : List Operand} {R : Ending → World → Prop} (hc : Calls P f (l.toArray.map a.eval) w R)
    (h : ∀ e W', R e W' → ∃ u, e = .returned u ∧ wpListIn (fen none) 0 P ops Qr rest (a.put (some d) u) W') :
    wpListIn (fen none) 0 P ops Qr (⟨some d, .call ⟨.value (.func f), l.toArray, tys⟩, ty, pos, af, none⟩ :: rest) a w := by
  refine wpListIn_plain rfl fun K hK => ?_
  refine wpR (by intro c h; cases h) ?_
  unfold Oper.wp
  have hr := run_call (P := P) (a := a) hf (fo := .func f) (fi := []) (ca := []) rfl l tys (some d) w (ty := ty) (pos := pos) (af := af) (gd := none)
  rw [hr, Oper.upon_enter]
  refine (show Calls P f _ w R by simpa using hc).mono fun e W' he => ?_
  obtain ⟨u, rfl, hu⟩ := h e W' he
  exact hK _ _ hu
theorem loop_raw {c : Code} {r : Option Nat} {Q : Exit → Act → World → Prop} (I : Nat → Act → World → Prop)
    (h : ∀ k a w, I k a w → c.wpIn (fen r) 0 P (fun e a w => match e with | .normal => ∃ k', k' < k ∧ I k' a w | e => Q e a w) a w) : ∀ (k : Nat) (a : Act) (w : World), I k a w → (Code.loop c).wpIn (fen r) 0 P Q a w := by
  intro k a w hI b kk cs hro hb hr
  have key : ∀ n a w, I n a w → ∃ e a' w', Q e a' w' ∧ ArrivesIn (Machine.fenced P (fen r)) P (lone (b.atR a (.code c :: .inLoop c :: kk)) cs w) b kk cs e a' w' := by
    intro n
    induction n using Nat.strongRecOn with
    | _ n ih =>
      intro a w hI
      obtain ⟨e, a₁, w₁, hq, harr⟩ := h n a w hI b (.inLoop c :: kk) cs hro hb hr
      cases e with
      | normal =>
        obtain ⟨k', hlt, hI'⟩ := hq
        obtain ⟨e₂, a₂, w₂, hq₂, harr₂⟩ := ih k' hlt a₁ w₁ hI'
        exact ⟨e₂, a₂, w₂, hq₂, .of_steps (StepsIn.trans harr (.one (fenced_calm hb hr rfl) stepR_inLoop)) harr₂⟩
      | exit id => exact ⟨_, a₁, w₁, hq, .pass (x := .inLoop c) rfl (fun _ _ => .inl (by simp)) harr⟩
      | goto l => exact ⟨_, a₁, w₁, hq, .pass (x := .inLoop c) rfl (fun _ _ => .inl (by simp)) harr⟩
      | ret => exact ⟨_, a₁, w₁, hq, .pass (x := .inLoop c) rfl (fun _ _ => .inl (by simp)) harr⟩
      | panic ch => exact ⟨_, a₁, w₁, hq, .pass (x := .inLoop c) rfl (fun _ _ => .inl (by simp)) harr⟩
      | outgrown => exact ⟨_, a₁, w₁, hq, .pass (x := .inLoop c) rfl (fun _ _ => .inl (by simp)) harr⟩
  obtain ⟨e, a', w', hq, harr⟩ := key _ a w hI
  exact ⟨e, a', w', hq, .of_steps (.one (fenced_calm hb hr rfl) stepR_loop) harr⟩
end
/-! ### what rounds may write: the block c, and the block of the slice that lies in it -/
def wr (c : Nat) (W : World) (k : Nat) : Prop := k = c ∨ ∃ us t fz v, W.heap[c]? = some (.cells us t fz) ∧ us[0]? = some v ∧ k ∈ arrFp v
structure OkW (c : Nat) (W : World) : Prop where
  cel : isC W c
  lt : ∀ k, wr c W k → k < W.heap.size
/-- What a round keeps. -/
structure KpW (c : Nat) (W W' : World) : Prop where
  ok : OkW c W'
  size : W.heap.size ≤ W'.heap.size
  block : ∀ k, isC W k → ¬ wr c W k → W'.heap[k]? = W.heap[k]? ∧ ¬ wr c W' k
def Kp (c : Nat) (W W' : World) : Prop := OkW c W → KpW c W W'
def Sf (c : Nat) (W : World) (k : Nat) : Prop := isC W k ∧ ¬ wr c W k
theorem isC.lt {W : World} {k : Nat} (h : isC W k) : k < W.heap.size := by obtain ⟨_, _, _, h⟩ := h; exact heap_lt h
theorem isC.same {W W' : World} {k : Nat} (h : isC W k) (e : W'.heap[k]? = W.heap[k]?) : isC W' k := by obtain ⟨_, _, _, h⟩ := h; exact ⟨_, _, _, e.trans h⟩
theorem Kp.trans {c : Nat} {A B C : World} (h : Kp c A B) (k : Kp c B C) : Kp c A C := fun ha => by
  have h1 := h ha
  have h2 := k h1.ok
  exact ⟨h2.ok, Nat.le_trans h1.size h2.size, fun i hc hn => by
    obtain ⟨e1, n1⟩ := h1.block i hc hn
    obtain ⟨e2, n2⟩ := h2.block i (hc.same e1) n1
    exact ⟨e2.trans e1, n2⟩⟩
theorem wr_same {c : Nat} {W W' : World} (h : W'.heap[c]? = W.heap[c]?) (k : Nat) : wr c W' k ↔ wr c W k := by unfold wr; rw [h]
theorem Kp.grown {c : Nat} {W W' : World} (h : W.grownBy W' none) : Kp c W W' := fun ha => by
  have e : ∀ k, k < W.heap.size → W'.heap[k]? = W.heap[k]? := fun k hk => h.block k hk (by simp)
  have ec := e c ha.cel.lt
  exact ⟨⟨ha.cel.same ec, fun k hk => Nat.lt_of_lt_of_le (ha.lt k ((wr_same ec k).1 hk)) h.size⟩, h.size, fun k hc hn => ⟨e k hc.lt, fun hw => hn ((wr_same ec k).1 hw)⟩⟩
theorem Kp.refl {c : Nat} {W : World} : Kp c W W := fun ha => ⟨ha, Nat.le_refl _, fun _ _ hn => ⟨rfl, hn⟩⟩
theorem Kp.putObj {c B : Nat} (hB : c < B) (W : World) (l : Nat) (o o' : Obj) (hl : B ≤ l) (h : W.heap[l]? = some o) (ho : o.isCells = false) : Kp c W (W.putObj l o') := fun ha => by
  have e : ∀ k, k ≠ l → (W.putObj l o').heap[k]? = W.heap[k]? := fun k hk => World.putObj_heap_other hk
  have ec := e c (by omega)
  refine ⟨⟨ha.cel.same ec, fun k hk => by simpa using ha.lt k ((wr_same ec k).1 hk)⟩, by simp, fun k hc hn => ⟨e k fun hk => ?_, fun hw => hn ((wr_same ec k).1 hw)⟩⟩
  obtain ⟨_, _, _, hc⟩ := hc
  rw [hk, h] at hc; cases hc; cases ho
theorem Sf.keep {c : Nat} {W W' : World} {k : Nat} (h : Sf c W k) (hk : KpW c W W') : Sf c W' k ∧ W'.heap[k]? = W.heap[k]? := by
  obtain ⟨e, n1⟩ := hk.block k h.1 h.2
  exact ⟨⟨h.1.same e, n1⟩, e⟩
/-- A box with a slice in it, and the slice's own array. -/
theorem wr_own {W : World} {A : Foot} {c : Nat} {v : Value} {e : ETy} {xs : List (List AV)} (h1 : Own.ok W A (.box c [.c v])) (k : Nat) : wr c W k ↔ k ∈ fps [.box c [.c v], .arr v e xs] := by
  simp only [Own.ok] at h1
  obtain ⟨us, t, hb, hs, hc⟩ := h1
  obtain ⟨u, hu, _, hr⟩ := hc 0 (.c v) rfl
  have := hr.eq; subst this
  rw [Nat.zero_add] at hu
  simp only [fps, List.flatMap_cons, List.flatMap_nil, Own.fp, List.append_nil, List.singleton_append, List.mem_cons]
  constructor
  · rintro (h | ⟨us', t', fz', v', h, h', hk⟩)
    · exact .inl h
    · rw [hb] at h; cases h
      rw [hu] at h'; cases h'
      exact .inr hk
  · rintro (h | h)
    · exact .inl h
    · exact .inr ⟨us, t, _, u, hb, hu, h⟩
/-! ### segments -/
theorem grown_of_keep {E : Ent} {A : Foot} {st : St} {a : Act} {w : World} (h : SatA E A st a w) (hfp : E.fp0 = []) : E.w0.grownBy w none := by
  have hk := h.keep
  exact ⟨hk.os, hk.tape, hk.output, hk.size, fun k hk1 _ => hk.block k hk1 (by rw [hfp]; simp)⟩
/-- Behind a round, or a function that calls rounds: what was readable is; a new segment begins. -/
theorem SatA.seg {E : Ent} {A : Foot} {n : Nat} {env : List (Nat × AV)} {own : List Own} {F : List (Value × AV)} {D : List Deferred} {a : Act} {w W' : World} {c : Nat} (h : SatA E A ⟨n, env, own, F, D⟩ a w) (hfp : E.fp0 = [])
    (hA0 : ∀ fr b, E.A0 fr b → Sf c E.w0 b) (hok : OkW c E.w0) (hk : Kp c w W') :
    ∃ A', SatA ⟨W', [], A', none⟩ A' ⟨n, env, [], F, D⟩ a W' ∧ (∀ fr b, A' fr b → Sf c W' b) ∧ OkW c W' := by
  have hg := grown_of_keep h hfp
  have h1 := (Kp.grown hg : Kp c E.w0 w) hok
  have h2 := hk h1.ok
  have h3 := h.shrink E.w0.heap.size fun fr b hb => .inl (hA0 fr b hb).1.lt
  have hS : ∀ fr b, (A fr b ∧ (b < E.w0.heap.size ∨ isC w b)) → Sf c w b := by
    rintro fr b ⟨hb, hc⟩
    rcases h.hp.sub fr b hb with h0 | h0
    · exact ((hA0 fr b h0).keep h1).1
    · rcases hc with hc | hc
      · omega
      · refine ⟨hc, fun hw => ?_⟩
        have e : w.heap[c]? = E.w0.heap[c]? := hg.block c hok.cel.lt (by simp)
        have := hok.lt b ((wr_same e b).1 hw)
        omega
  have hsame : ∀ fr b, (A fr b ∧ (b < E.w0.heap.size ∨ isC w b)) → b < w.heap.size → W'.heap[b]? = w.heap[b]? := fun fr b hb _ => ((hS fr b hb).keep h2).2
  have hid : ∀ fr b, (A fr b ∧ (b < E.w0.heap.size ∨ isC w b)) → b < w.heap.size → (A fr b ∧ (b < E.w0.heap.size ∨ isC w b)) := fun _ _ h _ => h
  refine ⟨fun fr b => A fr b ∧ (b < E.w0.heap.size ∨ isC w b), ⟨h3.size, h3.defers, .refl _ _, ⟨h3.hp.mono, fun _ _ h => h, fun _ _ h => .inl h, fun fr b hb => ((hS fr b hb).keep h2).1.1.lt, fun b hb => by simp [fps] at hb, by simp [fps], fun o ho => by cases ho⟩,
    fun i x hx => (h3.env i x hx).move hid hsame, fun p hp => (h3.facts p hp).move hid hsame⟩, fun fr b hb => ((hS fr b hb).keep h2).1, h2.ok⟩
theorem Clos.box {b : Nat} {ys : List AV} : Clos [(.pointer (some ⟨b, 0, none⟩), .ref true ys)] (.box b ys) := fun w A hok hA p hp => by
  obtain rfl := List.mem_singleton.1 hp
  simp only [Own.ok] at hok
  obtain ⟨us, t, hb, _, hc⟩ := hok
  exact Rd.mk_ref (hA b (by simp [Own.fp]) true) hb hc
theorem flat_len {α : Type} {sz : Nat} : ∀ (xs : List (List α)), (∀ x ∈ xs, x.length = sz) → xs.flatten.length = xs.length * sz
  | [], _ => by simp
  | x :: r, h => by
    rw [List.flatten_cons, List.length_append, h x (by simp), flat_len r (fun y hy => h y (by simp [hy])), List.length_cons, Nat.succ_mul, Nat.add_comm]
/-- What is read of a slice, told in its very values. -/
theorem Rd.exact_sl {w : World} {A : Foot} {v : Value} {fr clip : Bool} {e : ETy} {xs : List (List AV)} (h : Rd w A v (.sl fr clip e xs)) : ∃ us : List (List Value), us.length = xs.length ∧ (∀ u ∈ us, u.length = e.sz) ∧
    (∀ u ∈ us, u.all (·.oneCell') = true) ∧ Rd w A v (.sl fr clip e (us.map (·.map AV.c))) ∧ ∀ (j : Nat) (u : List Value) (x : List AV), us[j]? = some u → xs[j]? = some x → Cells w A u.toArray 0 x := by
  have h0 := h
  generalize hy : AV.sl fr clip e xs = y at h
  cases h with
  | emp fr' clip' e' a cap hc =>
    cases hy
    exact ⟨[], rfl, by simp, by simp, h0, by simp⟩
  | sl fr' clip' e' xs' b off cap cs t fz u hA hb hcap hclip hsz hreach hu hr =>
    cases hy
    have hg : ∀ j x, xs[j]? = some x → ∀ k (y : AV), x[k]? = some y → cs[off + (j * e.sz + k)]? = some (u (j * e.sz + k)) ∧ (u (j * e.sz + k)).oneCell' = true ∧ Rd w A (u (j * e.sz + k)) y := fun j x hj k y hk => by
      have := flatten_get xs hsz j x hj k y hk
      exact ⟨(hu _ _ this).1, (hu _ _ this).2, hr _ _ this⟩
    let us : List (List Value) := (List.range xs.length).map fun j => (List.range e.sz).map fun k => u (j * e.sz + k)
    have hus : ∀ j, (x : List AV) → xs[j]? = some x → us[j]? = some ((List.range e.sz).map fun k => u (j * e.sz + k)) := fun j x hj => by
      have hlt : j < xs.length := (List.getElem?_eq_some_iff.1 hj).1
      simp [us, hlt]
    have hul : us.length = xs.length := by simp [us]
    have hu1 : ∀ x ∈ us, x.length = e.sz := fun x hx => by
      simp only [us, List.mem_map] at hx
      obtain ⟨_, _, rfl⟩ := hx; simp
    refine ⟨us, hul, hu1, fun x hx => ?_, ?_, fun j u' x hj hx => ?_⟩
    · obtain ⟨j, hj⟩ := List.mem_iff_getElem?.1 hx
      have hlt : j < xs.length := by rw [← hul]; exact (List.getElem?_eq_some_iff.1 hj).1
      obtain ⟨y, hy⟩ : ∃ y, xs[j]? = some y := ⟨_, List.getElem?_eq_getElem hlt⟩
      rw [hus j y hy] at hj; cases hj
      simp only [List.all_map, List.all_eq_true, List.mem_range, Function.comp]
      intro k hk
      obtain ⟨z, hz⟩ : ∃ z, y[k]? = some z := ⟨_, List.getElem?_eq_getElem (by rw [hsz y (List.mem_of_getElem? hy)]; exact hk)⟩
      exact (hg j y hy k z hz).2.1
    · have hl : (us.map (·.map AV.c)).length = xs.length := by simp [hul]
      rw [← hl]
      refine .sl fr clip e _ b off cap cs t fz u hA hb (by rw [hl]; exact hcap) (by rw [hl]; exact hclip) (fun x hx => ?_) (by rw [hl]; exact hreach) (fun k y hk => ?_) (fun k y hk => ?_)
      · obtain ⟨z, hz, rfl⟩ := List.mem_map.1 hx; simp [hu1 z hz]
      all_goals
        have hflen : ∀ k y, (us.map (·.map AV.c)).flatten[k]? = some y → ∃ z, xs.flatten[k]? = some z ∧ y = AV.c (u k) := fun k y hk => by
          have hf : (us.map (·.map AV.c)).flatten = (List.range (xs.length * e.sz)).map fun k => AV.c (u k) := by
            apply List.ext_getElem?
            intro i
            have aux : ∀ m, ((List.range m).map fun j => (List.range e.sz).map fun k => AV.c (u (j * e.sz + k))).flatten = (List.range (m * e.sz)).map fun k => AV.c (u k) := by
              intro m
              induction m with
              | zero => simp
              | succ m ih =>
                rw [List.range_succ, List.map_append, List.flatten_append, ih, Nat.succ_mul, List.range_add, List.map_append]
                simp [List.map_map, Function.comp]
            have : us.map (·.map AV.c) = (List.range xs.length).map fun j => (List.range e.sz).map fun k => AV.c (u (j * e.sz + k)) := by simp [us, List.map_map, Function.comp]
            rw [this, aux]
          rw [hf] at hk
          have hlt : k < xs.length * e.sz := by have := (List.getElem?_eq_some_iff.1 hk).1; simpa using this
          have hfl : xs.flatten.length = xs.length * e.sz := flat_len xs hsz
          refine ⟨_, List.getElem?_eq_getElem (by omega), ?_⟩
          simp [hlt] at hk
          exact hk.symm
        obtain ⟨z, hz, rfl⟩ := hflen k y hk
      · exact hu k z hz
      · exact .c _
    · rw [hus j x hx] at hj; cases hj
      intro k y hk
      have h1 := hg j x hx k y hk
      have hklt : k < e.sz := by rw [← hsz x (List.mem_of_getElem? hx)]; exact (List.getElem?_eq_some_iff.1 hk).1
      exact ⟨u (j * e.sz + k), by simp [hklt], h1.2.1, h1.2.2⟩
  | _ => cases hy
/-- Seen from where the function began. -/
theorem SatA.up {E : Ent} {A1 A2 : Foot} {st1 st2 : St} {a1 a2 : Act} {W W2 : World} {rd : Option Nat} (h1 : SatA E A1 st1 a1 W) (h2 : SatA ⟨W, fps st1.own, A1, rd⟩ A2 st2 a2 W2) : SatA E A2 st2 a2 W2 := by
  have hf : ∀ b ∈ fps st1.own, b ∈ E.fp0 ∨ E.w0.heap.size ≤ b := fun b hb => (h1.hp.fp b hb).2.1
  refine ⟨h2.size, h2.defers, h1.keep.trans h2.keep hf, ⟨h2.hp.mono, fun fr b hb => h2.hp.sup fr b (h1.hp.sup fr b hb), fun fr b hb => ?_, h2.hp.lt, fun b hb => ?_, h2.hp.nodup, h2.hp.own⟩, h2.env, h2.facts⟩
  · rcases h2.hp.sub fr b hb with h | h
    · exact h1.hp.sub fr b h
    · exact .inr (Nat.le_trans h1.keep.size h)
  · obtain ⟨g1, g2, g3⟩ := h2.hp.fp b hb
    exact ⟨g1, g2.elim (hf b) (fun h => .inr (Nat.le_trans h1.keep.size h)), g3⟩
/-- Said anew from where it stands. -/
theorem SatA.newE {E : Ent} {A : Foot} {st : St} {a : Act} {W : World} (h : SatA E A st a W) (rd : Option Nat) : SatA ⟨W, fps st.own, A, rd⟩ A st a W :=
  ⟨h.size, h.defers, .refl _ _, ⟨h.hp.mono, fun _ _ h => h, fun _ _ h => .inl h, h.hp.lt, fun b hb => ⟨(h.hp.fp b hb).1, .inl hb, (h.hp.fp b hb).2.2⟩, h.hp.nodup, h.hp.own⟩, h.env, h.facts⟩
/-- The range over a function in code: its assignment, its body. -/
def rangeOf : Code → Option (Code × Code)
  | .rangeFunc _ _ x y => some (x, y)
  | .seq x y => match rangeOf x with
    | some r => some r
    | none => rangeOf y
  | .block _ c => rangeOf c
  | _ => none
def rAssign (f : Func) : Code := match f.body with
  | some c => match rangeOf c with
    | some (x, _) => x
    | none => .skip
  | none => .skip
def rBody (f : Func) : Code := match f.body with
  | some c => match rangeOf c with
    | some (_, y) => y
    | none => .skip
  | none => .skip
theorem SatA.env' {E : Ent} {A : Foot} {n : Nat} {env env' : List (Nat × AV)} {own : List Own} {F : List (Value × AV)} {D : List Deferred} {a : Act} {w : World} (h : SatA E A ⟨n, env, own, F, D⟩ a w) (he : EnvLe F env env') : SatA E A ⟨n, env', own, F, D⟩ a w :=
  ⟨h.size, h.defers, h.keep, h.hp, fun i x hx => by obtain ⟨y, h1, h2⟩ := he.get i x hx; exact (h.env i y h1).le h.hp.mono h.facts h2, h.facts⟩
theorem Rd.agg_c {w : World} {A : Foot} {v : Value} {us : List Value} (h : Rd w A v (.agg (us.map AV.c))) : v = .agg us.toArray := by
  obtain ⟨vs, rfl, hn, hc⟩ := h.of_agg
  congr 1
  apply Array.ext_getElem?
  intro k
  by_cases hk : k < us.length
  · obtain ⟨u, h1, _, h2⟩ := hc k (.c us[k]) (by simp [hk])
    have := h2.eq; subst this
    rw [Nat.zero_add] at h1
    simp [h1, hk]
  · simp only [List.length_map] at hn
    rw [Array.getElem?_eq_none (by omega), Array.getElem?_eq_none (by simp; omega)]
theorem calls_raw {P : Program} {f : FuncId} {fn : Func} {c : Code} {N : Nat} {vs : Array Value} {w : World} {R : Ending → World → Prop} (hf : P.funcs[f]? = some fn) (hb : fn.body = some c) (hN : fn.ntmps = N)
    (h : c.wpIn (fen none) 0 P (bodyPost P fn R) { tmps := vs ++ Array.replicate (N - vs.size) undef, defers := [] } w) : Calls P f vs w R := by
  subst hN
  exact (callsIn_wide (n := 0)).1 (callsIn_of_wp hf hb trivial h rfl)
end Go.Proofs.Ytlppnhkjonmniaa.J

/- Owned trees taken apart. -/
namespace Go.Proofs.Ytlppnhkjonmniaa.J
open Go Go.RowKit
set_option linter.unusedVariables false
set_option linter.unusedSimpArgs false
theorem Reown.msk (ms : List Cd) (own : List Own) {own' : List Own} (h : selP ms own = own') : Reown own own' := by
  subst h
  exact (Reown.perm ((sel_perm ms own).trans List.perm_append_comm)).trans (Reown.drop _ _)
theorem Reown.pair {a b o : Own} {l : List Own} (h : OwnEq (.grp [a, b]) o) : Reown (o :: l) (a :: b :: l) := (Reown.eq h.symm).trans (Reown.open [a, b] l)
theorem Tr.inv {e : ETy} {xs : List (List AV)} {v : Value} {o : Own} (h : Tr (.sl true false e xs) v o) :
    ∃ cs us o1, cs.flatten = us.map AV.c ∧ cs.length = xs.length ∧ (∀ x ∈ cs, x.length = e.sz) ∧ us.all (·.oneCell') = true ∧ TrL xs.flatten us o1 ∧ OwnEq (.grp [.arr v e cs, o1]) o := by
  cases h with
  | sl h1 h2 h3 h4 h5 h6 h ho => exact ⟨_, _, _, h1, h2, h4, h5, h, ho⟩
theorem Tr.c_inv {u v : Value} {o : Own} (h : Tr (.c u) v o) : v = u := by cases h; rfl
theorem TrL.cons_inv {y : AV} {ys : List AV} {us : List Value} {o : Own} (h : TrL (y :: ys) us o) : ∃ u us' a b, us = u :: us' ∧ Tr y u a ∧ TrL ys us' b ∧ OwnEq (.grp [a, b]) o := by
  cases h with
  | cons h hs ho => exact ⟨_, _, _, _, rfl, h, hs, ho⟩
theorem TrL.nil_inv {us : List Value} {o : Own} (h : TrL [] us o) : us = [] := by cases h; rfl
theorem TrL.value {x : V} {us : List Value} {o : Own} (h : TrL (x.cs true) us o) (h1 : us.all (·.oneCell') = true) : ∃ kv iv ok oi, us = x.vals kv iv ∧ VTr x kv iv ok oi ∧ Reown [o] [ok, oi] := by
  obtain ⟨k, b, t, ks, is⟩ := x
  unfold V.cs at h
  obtain ⟨u0, us0, a0, b0, rfl, g0, h, e0⟩ := h.cons_inv
  obtain ⟨u1, us1, a1, b1, rfl, g1, h, e1⟩ := h.cons_inv
  obtain ⟨u2, us2, a2, b2, rfl, g2, h, e2⟩ := h.cons_inv
  obtain ⟨u3, us3, a3, b3, rfl, g3, h, e3⟩ := h.cons_inv
  obtain ⟨u4, us4, a4, b4, rfl, g4, h, e4⟩ := h.cons_inv
  obtain rfl := h.nil_inv
  obtain rfl := g0.c_inv
  obtain rfl := g1.c_inv
  obtain rfl := g2.c_inv
  simp only [List.all_cons, List.all_nil, Bool.and_eq_true, Bool.and_true] at h1
  refine ⟨u3, u4, a3, a4, rfl, ⟨h1.2.2.2.1, h1.2.2.2.2, g3, g4⟩, ?_⟩
  have s0 : Reown [o] [b0] := (Reown.pair e0).trans (Reown.dropN 1 _ rfl)
  have s1 : Reown [b0] [b1] := (Reown.pair e1).trans (Reown.dropN 1 _ rfl)
  have s2 : Reown [b1] [b2] := (Reown.pair e2).trans (Reown.dropN 1 _ rfl)
  have s3 : Reown [b2] [a3, a4] := (Reown.pair e3).trans ((Reown.cons (Reown.pair e4)).trans (Reown.msk [.p, .p] _ rfl))
  exact s0.trans (s1.trans (s2.trans s3))
end Go.Proofs.Ytlppnhkjonmniaa.J

/- Expressions: which may be, how many parts, how deep, which are one; own trees; octets. -/
namespace Go.Proofs.Ytlppnhkjonmniaa.J
open Go Go.RowKit
set_option linter.unusedVariables false
set_option linter.unusedSimpArgs false
mutual
/-- The first error of a walk, and the parts so far. -/
def EX.chk : EX → Int → Int → Int × Int
  | .mk o b t l, lev, n => if 8 < lev then (10, n) else if 64 ≤ n then (3, n) else if (EX.mk o b t l).ok = false then (9, n) else EX.chks l lev (n + 1)
def EX.chks : List EX → Int → Int → Int × Int
  | [], _, n => (0, n)
  | x :: r, lev, n => if (x.chk (lev + 1) n).1 ≠ 0 then x.chk (lev + 1) n else EX.chks r lev (x.chk (lev + 1) n).2
end
mutual
def EX.depth : EX → Int
  | .mk _ _ _ l => 1 + EX.depths l
def EX.depths : List EX → Int
  | [] => 0
  | x :: r => max x.depth (EX.depths r)
end
def EX.err (v : EX) : Int := (v.chk 1 0).1
def EX.cnt (v : EX) : Int := (v.chk 1 0).2
mutual
def EX.same : EX → EX → Bool
  | .mk o b t l, .mk o' b' t' l' => o == o' && b == b' && t == t' && EX.sames l l'
def EX.sames : List EX → List EX → Bool
  | [], [] => true
  | x :: r, y :: s => x.same y && EX.sames r s
  | _, _ => false
end
mutual
theorem EX.same_refl : ∀ e : EX, e.same e = true
  | .mk o b t l => by simp [EX.same, EX.sames_refl l]
theorem EX.sames_refl : ∀ l : List EX, EX.sames l l = true
  | [] => rfl
  | x :: r => by simp [EX.sames, EX.same_refl x, EX.sames_refl r]
end
mutual
theorem EX.same_eq : ∀ {a b : EX}, a.same b = true → a = b
  | .mk o b t l, .mk o' b' t' l', h => by
    simp only [EX.same, Bool.and_eq_true, beq_iff_eq] at h
    obtain ⟨⟨⟨rfl, rfl⟩, rfl⟩, h⟩ := h
    rw [EX.sames_eq h]
theorem EX.sames_eq : ∀ {a b : List EX}, EX.sames a b = true → a = b
  | [], [], _ => rfl
  | x :: r, y :: s, h => by
    simp only [EX.sames, Bool.and_eq_true] at h
    rw [EX.same_eq h.1, EX.sames_eq h.2]
  | [], _ :: _, h => by simp [EX.sames] at h
  | _ :: _, [], h => by simp [EX.sames] at h
end
mutual
theorem EX.chk_bounds : ∀ (v : EX) (lev n : Int), n ≤ (v.chk lev n).2 ∧ (n ≤ 64 → (v.chk lev n).2 ≤ 64)
  | .mk o b t l, lev, n => by
    unfold EX.chk
    split
    · exact ⟨Int.le_refl _, id⟩
    · split
      · exact ⟨Int.le_refl _, id⟩
      · split
        · exact ⟨Int.le_refl _, id⟩
        · have := EX.chks_bounds l lev (n + 1)
          exact ⟨by omega, fun h => this.2 (by omega)⟩
theorem EX.chks_bounds : ∀ (l : List EX) (lev n : Int), n ≤ (EX.chks l lev n).2 ∧ (n ≤ 64 → (EX.chks l lev n).2 ≤ 64)
  | [], lev, n => ⟨Int.le_refl _, id⟩
  | x :: r, lev, n => by
    unfold EX.chks
    have h1 := EX.chk_bounds x (lev + 1) n
    split
    · exact h1
    · have h3 := EX.chks_bounds r lev (x.chk (lev + 1) n).2
      exact ⟨by omega, fun h => h3.2 (h1.2 h)⟩
end
theorem EX.depths_nonneg : ∀ l : List EX, 0 ≤ EX.depths l
  | [] => Int.le_refl _
  | x :: r => by unfold EX.depths; have := EX.depths_nonneg r; omega
mutual
theorem EX.chk_depth : ∀ (v : EX) (lev n : Int), (v.chk lev n).1 = 0 → lev + v.depth ≤ 9 ∧ 1 ≤ v.depth
  | .mk o b t l, lev, n, h => by
    unfold EX.chk at h
    split at h
    · simp at h
    · split at h
      · simp at h
      · split at h
        · simp at h
        · have := EX.chks_depth l lev (n + 1) h
          have h0 := EX.depths_nonneg l
          unfold EX.depth
          omega
theorem EX.chks_depth : ∀ (l : List EX) (lev n : Int), (EX.chks l lev n).1 = 0 → EX.depths l = 0 ∨ lev + EX.depths l ≤ 8
  | [], lev, n, h => .inl rfl
  | x :: r, lev, n, h => by
    unfold EX.chks at h
    split at h
    · rename_i h'; exact absurd h h'
    · rename_i h'
      have h1 := EX.chk_depth x (lev + 1) n (by simpa using h')
      have h2 := EX.chks_depth r lev _ h
      right
      unfold EX.depths
      omega
end
mutual
/-- As many parts as it has. -/
theorem EX.chk_sz : ∀ (v : EX) (lev n : Int), (v.chk lev n).1 = 0 → (v.chk lev n).2 = n + v.sz
  | .mk o b t l, lev, n, h => by
    unfold EX.chk at h ⊢
    split at h
    · simp at h
    · split at h
      · simp at h
      · split at h
        · simp at h
        · rename_i h1 h2 h3
          rw [if_neg h1, if_neg h2, if_neg h3, EX.chks_sz l lev (n + 1) h]
          simp only [EX.sz]; omega
theorem EX.chks_sz : ∀ (l : List EX) (lev n : Int), (EX.chks l lev n).1 = 0 → (EX.chks l lev n).2 = n + EX.szs l
  | [], lev, n, h => by simp [EX.chks, EX.szs]
  | x :: r, lev, n, h => by
    unfold EX.chks at h ⊢
    split at h
    · rename_i h'; exact absurd h h'
    · rename_i h'
      rw [if_neg h', EX.chks_sz r lev _ h, EX.chk_sz x (lev + 1) n (by simpa using h')]
      simp only [EX.szs]; omega
end
/-- Every part of one that may be is right. -/
inductive EX.Fine : EX → Prop
  | mk {o : Int} {b : Nat} {t : Str} {l : List EX} (h : (EX.mk o b t l).ok = true) (h' : ∀ x ∈ l, EX.Fine x) : EX.Fine (.mk o b t l)
mutual
theorem EX.fine_chk : ∀ (v : EX) (lev n : Int), (v.chk lev n).1 = 0 → v.Fine
  | .mk o b t l, lev, n, h => by
    unfold EX.chk at h
    split at h
    · simp at h
    · split at h
      · simp at h
      · split at h
        · simp at h
        · rename_i h3
          exact .mk (by simpa using h3) (EX.fine_chks l lev (n + 1) h)
theorem EX.fine_chks : ∀ (l : List EX) (lev n : Int), (EX.chks l lev n).1 = 0 → ∀ x ∈ l, x.Fine
  | [], lev, n, h => fun x hx => by cases hx
  | y :: r, lev, n, h => by
    unfold EX.chks at h
    split at h
    · rename_i h'; exact absurd h h'
    · rename_i h'
      intro x hx
      rcases List.mem_cons.1 hx with hxy | hx
      · rw [hxy]; exact EX.fine_chk _ _ _ (by simpa using h')
      · exact EX.fine_chks r _ _ h x hx
end
theorem EX.fine_of {v : EX} (h : v.err = 0) : v.Fine := EX.fine_chk v 1 0 h
theorem EX.Fine.part {v : EX} (h : v.Fine) : v.ok = true := by cases h; assumption
theorem EX.Fine.kid {v x : EX} (h : v.Fine) (hx : x ∈ v.args) : x.Fine := by cases h with | mk _ h => exact h x hx
theorem EX.ok_bounds {o : Int} {b : Nat} {t : Str} {l : List EX} (h : (EX.mk o b t l).ok = true) : 0 ≤ o ∧ o < 30 ∧ t.length ≤ 128 ∧ l.length ≤ 8 := by
  simp only [EX.ok, Bool.and_eq_true, decide_eq_true_eq] at h
  obtain ⟨⟨⟨⟨⟨h1, -⟩, h2⟩, -⟩, h3⟩, -⟩ := h
  simp only [EX.op, EX.args, EX.text] at h1 h2 h3
  have h4 : 0 ≤ o ∧ o < 30 := by
    by_cases hh : o < 0 ∨ 30 ≤ o
    · exact absurd (by unfold argsN; rw [if_pos hh]) h1
    · omega
  have h5 : textHi o ≤ 128 := by unfold textHi; repeat' split <;> omega
  exact ⟨h4.1, h4.2, by omega, by omega⟩
/-! ### own trees -/
def EX.raw (v : EX) (iv : Value) : List AV := [.c (.int .i64 v.op), .c (.int .u64 (v.bits : Int)), .c (str v.text), .c iv]
def EX.vals (v : EX) (iv : Value) : List Value := [.int .i64 v.op, .int .u64 (v.bits : Int), str v.text, iv]
theorem EX.raw_eq (v : EX) (iv : Value) : v.raw iv = (v.vals iv).map AV.c := rfl
structure ETr (v : EX) (iv : Value) (oi : Own) : Prop where
  i1 : iv.oneCell' = true
  is : Tr (.sl true false eEX (EX.css true v.args)) iv oi
theorem ETr.trL {v : EX} {iv : Value} {oi : Own} (h : ETr v iv oi) : TrL (v.cs true) (v.vals iv) oi := by
  obtain ⟨o, b, t, l⟩ := v
  have hn : TrL [] [] (.grp []) := .nil (.refl _)
  refine .cons (.c (.refl _)) (.cons (.c (.refl _)) (.cons (.c (.refl _)) (.cons h.is hn (o'' := oi) ?_) (.drops _)) (.drops _)) (.drops _)
  exact (OwnEq.grp_perm (List.Perm.swap _ _ _)).trans (.drops _)
theorem ETr.ones {v : EX} {iv : Value} {oi : Own} (h : ETr v iv oi) : (v.vals iv).all (·.oneCell') = true := by
  simp [EX.vals, h.i1]
  exact ⟨rfl, rfl, rfl⟩
theorem eargs_tr {v : Value} {is : List EX} {cells : List (List AV)} {us : List Value} {o : Own} (h1 : cells.flatten = us.map AV.c) (h2 : cells.length = is.length) (h3 : ∀ x ∈ cells, x.length = 4) (h5 : us.all (·.oneCell') = true) (h6 : is.length * 56 ≤ reach)
    (h : TrL (EX.css true is).flatten us o) : Tr (.sl true false eEX (EX.css true is)) v (.grp [.arr v eEX cells, o]) :=
  .sl h1 (by rw [h2, EX.css_length]) (EX.css_sz true is) h3 h5 (by rw [EX.css_length]; exact h6) h (.refl _)
def CopyE (v : EX) : AV → List Own → Prop := fun x o => ∃ iv oi, x = .agg (v.raw iv) ∧ o = [oi] ∧ ETr v iv oi
structure EKids (is : List EX) (cells : List (List AV)) (us : List Value) (o : Own) : Prop where
  h1 : cells.flatten = us.map AV.c
  h2 : cells.length = is.length
  h3 : ∀ x ∈ cells, x.length = 4
  h5 : us.all (·.oneCell') = true
  h : TrL (EX.css true is).flatten us o
theorem EKids.nil : EKids [] [] [] (.grp []) := ⟨rfl, rfl, (fun _ h => by cases h), rfl, .nil (.refl _)⟩
theorem EKids.snoc {is : List EX} {cells : List (List AV)} {us : List Value} {o oi : Own} {v : EX} {iv : Value} (h : EKids is cells us o) (hv : ETr v iv oi) : EKids (is ++ [v]) (cells ++ [v.raw iv]) (us ++ v.vals iv) (.grp [o, oi]) := by
  refine ⟨by simp [h.h1, EX.raw_eq], by simp [h.h2], fun x hx => ?_, by rw [List.all_append, h.h5, hv.ones]; rfl, ?_⟩
  · rcases List.mem_append.1 hx with hx | hx
    · exact h.h3 x hx
    · simp only [List.mem_singleton] at hx; subst hx; rfl
  · rw [EX.css_append, List.flatten_append]
    refine h.h.append ?_ (.refl _)
    simpa [EX.css] using hv.trL
theorem EKids.tr {is : List EX} {cells : List (List AV)} {us : List Value} {o : Own} (h : EKids is cells us o) {v : Value} (h6 : is.length * 56 ≤ reach) : Tr (.sl true false eEX (EX.css true is)) v (.grp [.arr v eEX cells, o]) :=
  eargs_tr h.h1 h.h2 h.h3 h.h5 h6 h.h
theorem args_low (is : List EX) : LowFl (.sl false false eEX (EX.css false is)) := .sl rfl (EX.css_fl false is)
theorem args_le {F : List (Value × AV)} (fr fr' : Bool) (hf : fr' = true → fr = true) (is : List EX) : Le F (.sl fr false eEX (EX.css fr is)) (.sl fr' false eEX (EX.css fr' is)) :=
  .slL hf (by rw [EX.css_length, EX.css_length]) (EX.css_sz fr' is) (EX.css_le fr fr' hf is)
theorem ETr.lent {v : EX} {iv : Value} {oi : Own} (h : ETr v iv oi) : Lent [(iv, .sl false false eEX (EX.css false v.args))] [oi] := h.is.lent (args_le true false (fun h => by cases h) _) (args_low _)
theorem EX.raw_le {F : List (Value × AV)} {v : EX} {iv : Value} {fr : Bool} (hi : (iv, .sl fr false eEX (EX.css fr v.args)) ∈ F) : Le F (.agg (v.raw iv)) (.agg (v.cs fr)) := by
  obtain ⟨o, b, t, l⟩ := v
  exact .aggL (.cons (.refl _) (.cons (.refl _) (.cons (.refl _) (.cons (.fact hi (.refl _)) .nil))))
end Go.Proofs.Ytlppnhkjonmniaa.J

/- The parts of an expression, one by one: what each promises. -/
namespace Go.Proofs.Ytlppnhkjonmniaa.J
open Go Go.RowKit
set_option linter.unusedVariables false
set_option linter.unusedSimpArgs false
set_option maxRecDepth 10000
set_option maxHeartbeats 4000000
theorem EX.cs_len4 (fr : Bool) (e : EX) : (e.cs fr).length = 4 := EX.cs_length fr e
abbrev EArg (w0 : World) (A0 : Foot) (fr : Bool) := { x : Value × EX // Rd w0 A0 x.1 (.agg (x.2.cs fr)) ∧ x.2.wf ∧ x.2.Fine }
theorem EX.sz_mk {o : Int} {b : Nat} {t : Str} {l : List EX} : (EX.mk o b t l).sz = 1 + EX.szs l := by unfold EX.sz; rfl
theorem EX.szs_take : ∀ (l : List EX) (j : Nat), EX.szs (l.take j) ≤ EX.szs l
  | [], j => by simp [EX.szs]
  | x :: r, 0 => by simp [EX.szs]
  | x :: r, j + 1 => by have := EX.szs_take r j; simp only [List.take_succ_cons, EX.szs]; omega
theorem EX.szs_append : ∀ (l r : List EX), EX.szs (l ++ r) = EX.szs l + EX.szs r
  | [], r => by simp [EX.szs]
  | x :: l, r => by have := EX.szs_append l r; simp only [List.cons_append, EX.szs]; omega
theorem EX.szs_next {l : List EX} {j : Nat} (h : j < l.length) : EX.szs (l.take j) + l[j].sz ≤ EX.szs l := by
  have h1 := EX.szs_take l (j + 1)
  rw [List.take_succ_eq_append_getElem h, EX.szs_append] at h1
  simp only [EX.szs] at h1
  omega
mutual
theorem EX.parts_len : ∀ e : EX, e.parts.length = e.sz
  | .mk o b t l => by have := EX.partsL_len l; simp only [EX.parts, EX.sz, List.length_cons]; omega
theorem EX.partsL_len : ∀ l : List EX, (EX.partsL l).length = EX.szs l
  | [] => rfl
  | x :: r => by have h1 := EX.parts_len x; have h2 := EX.partsL_len r; simp only [EX.partsL, EX.szs, List.length_append]; omega
end
theorem each_n {w0 : World} {A0 : Foot} {fr : Bool} {c l N : Nat} (hm : ∀ b, A0 true b → A0 false b) {Jv : List (EArg w0 A0 fr) → World → Prop} (hJ : ∀ s W W', Jv s W → W.grownBy W' none → Jv s W')
    (hY : ∀ pre (x : EArg w0 A0 fr) W1, Jv pre W1 → pre.length < N → YieldAt Fence.wide 0 Try.prog l #[x.1.1] W1 fun e W' => e = .returned (.bool true) ∧ Jv (pre ++ [x]) W' ∧ Kp c W1 W') :
    ∀ (m : Nat) (T : EX) (v : Value) (pre : List (EArg w0 A0 fr)) (W : World), T.sz ≤ m → Rd w0 A0 v (.agg (T.cs fr)) → T.wf → T.Fine → (∀ fr b, A0 fr b → Sf c W b ∧ W.heap[b]? = w0.heap[b]?) → OkW c W → Jv pre W → pre.length + T.sz ≤ N →
      Calls Try.prog 29 #[v, .func (.yield l) #[] #[]] W fun e W' => e = .returned (.bool true) ∧ ∃ xs : List (EArg w0 A0 fr), xs.map (·.1.2) = T.parts ∧ Jv (pre ++ xs) W' ∧ Kp c W W' := by
  intro m
  induction m with
  | zero => intro T v pre W h; exact absurd h (by have := EX.sz_pos T; omega)
  | succ m ih =>
    intro T v pre W hsz hv hw hfi hR hok hJ0 hN
    obtain ⟨o, b, t, ks⟩ := T
    obtain ⟨-, -, -, hreach, hwk⟩ := hw.inv
    have hkl : ks.length ≤ 9223372036854775806 := by unfold reach at hreach; omega
    obtain ⟨vs, rfl, hvs, hcs⟩ := hv.of_agg
    obtain ⟨u0, e0, n0, r0⟩ := hcs 0 (.c (.int .i64 o)) rfl
    obtain ⟨u1, e1, n1, r1⟩ := hcs 1 (.c (.int .u64 (b : Int))) rfl
    obtain ⟨u2, e2, n2, r2⟩ := hcs 2 (.c (str t)) rfl
    obtain ⟨u3, e3, n3, r3⟩ := hcs 3 (.sl fr false eEX (EX.css fr ks)) rfl
    simp only [Nat.zero_add] at e0 e1 e2 e3
    have hvs4 : vs.size = 4 := hvs
    obtain rfl : vs = #[u0, u1, u2, u3] := by
      apply Array.ext_getElem?
      intro k
      match k with
      | 0 => exact e0
      | 1 => exact e1
      | 2 => exact e2
      | 3 => exact e3
      | k + 4 => rw [Array.getElem?_eq_none (by omega), Array.getElem?_eq_none (by simp)]
    obtain ⟨us, hul, hu4, hu1, hu3, huc⟩ := r3.exact_sl
    rw [EX.css_length] at hul
    have hmv : ∀ {u : Value} {x : AV}, Rd w0 A0 u x → Rd W A0 u x := fun h => h.move (fun _ _ h _ => h) fun fr b hb _ => (hR fr b hb).2
    have hmk : ∀ u x, u.oneCell' = true → Rd W A0 u x → Rd W A0 u (.c u) := fun u x _ _ => .c u
    have hlt0 : ∀ fr b, A0 fr b → b < W.heap.size := fun fr b hb => (hR fr b hb).1.1.lt
    have hHp : Hp W.heap.size (fps []) A0 [] W A0 := ⟨hm, fun _ _ h => h, fun _ _ h => .inl h, hlt0, fun b hb => by simp [fps] at hb, by simp [fps], fun o ho => by cases ho⟩
    have hRd : RdL W A0 #[.agg #[u0, u1, u2, u3], .func (.yield l) #[] #[]] [.agg ([u0, u1, u2, u3].map AV.c), .c (.func (.yield l) #[] #[])] := ⟨rfl, fun i x hi => by
      match i with
      | 0 => cases hi; exact Rd.mk_agg rfl fun k y hk => by
              match k with
              | 0 => cases hk; exact ⟨u0, rfl, n0, .c _⟩
              | 1 => cases hk; exact ⟨u1, rfl, n1, .c _⟩
              | 2 => cases hk; exact ⟨u2, rfl, n2, .c _⟩
              | 3 => cases hk; exact ⟨u3, rfl, n3, .c _⟩
              | k + 4 => cases hk
      | 1 => cases hi; exact .c _
      | i + 2 => cases hi⟩
    refine calls_raw (N := 23) Try.func29 rfl Try.ntmps29 ?_
    have hs0 := init_sat (rd := none) (N := 23) hHp hRd (by simp)
    let F0 : List (Value × AV) := [(u3, .sl fr false eEX (us.map (·.map AV.c)))]
    have hs1 : SatA ⟨W, [], A0, none⟩ A0 ⟨23, initEnv 0 [.agg ([u0, u1, u2, u3].map AV.c), .c (.func (.yield l) #[] #[])], [], F0, []⟩ _ W := ⟨hs0.size, hs0.defers, hs0.keep, hs0.hp, hs0.env, fun p hp => by obtain rfl := List.mem_singleton.1 hp; exact hmv hu3⟩
    refine wpIn_seq (wpIn_mono (J.region_lit (P := Try.prog) (Q := fun e s => e = .normal ∧ ∃ b2, s = ⟨23, (4, .c (.bool false)) :: (2, .c (.pointer (some ⟨b2, 0, none⟩))) :: initEnv 0 [.agg ([u0, u1, u2, u3].map AV.c), .c (.func (.yield l) #[] #[])], [.box b2 ([u0, u1, u2, u3].map AV.c)], F0, []⟩)
      (JL.box_agg (.tmp rfl) rfl fun b2 => JL.q rfl rfl rfl (QW.assign .const) (JL.nil ⟨rfl, b2, rfl⟩)) _ _ ⟨A0, hs1⟩) ?_)
    rintro e a1 w1 ⟨s, ⟨rfl, b2, rfl⟩, A1, h1⟩
    obtain ⟨A2, h2⟩ := h1.close (i := 0) rfl Clos.box (fun b hb => by cases hb)
    simp only [Exit.then]
    refine wpIn_seq (wpIn_seq (JLr.region_lit (P := Try.prog) (JLr.q rfl rfl rfl (QW.move (.tmp rfl)) (JLr.q rfl rfl rfl (QW.load_ref ty32 (Ev.le (.tmp rfl) (.fact (List.mem_cons_self) (.refl _))) rfl rfl) (JLr.pre fun A a w h => ?_))) _ _ ⟨A2, h2⟩))
    have hg1 := grown_of_keep h rfl
    refine wp_yield (h.env 7 _ rfl).eq (h.env 8 _ rfl).agg_c (hY pre ⟨(.agg #[u0, u1, u2, u3], .mk o b t ks), hv, hw, hfi⟩ w (hJ _ _ _ hJ0 hg1) (by rw [EX.sz_mk] at hN; omega)) ?_
    rintro e W1 ⟨rfl, hJ1, hk1⟩
    refine ⟨_, rfl, ?_⟩
    obtain ⟨A3, h3, hS3, hok3⟩ := h.seg rfl (fun fr b hb => (hR fr b hb).1) hok hk1
    have hkW : Kp c W W1 := Kp.trans (Kp.grown hg1) hk1
    have h3' := h3.put (d := 9) (v := .bool true) (by decide) (.c (.bool true))
    refine (JLr.q (E := ⟨W1, [], A3, none⟩) rfl rfl rfl (QW.not (.tmp rfl)) (JLr.nil fun a w hs => ?_) : JLr Try.prog ⟨W1, [], A3, none⟩ _ _ _ _) _ _ ⟨A3, h3'⟩
    obtain ⟨A4, h4⟩ := hs
    simp only [Exit.then]
    refine wpIn_cond_split (h4.env 10 _ rfl).eq (fun h => by cases h) fun _ => wpIn_skip ?_
    simp only [Exit.then]
    -- the loop over the kids
    refine wpIn_seq (wpIn_seq (wpIn_mono (J.region_lit (P := Try.prog) (E := ⟨W1, [], A3, none⟩) (Q := fun e s => e = .normal ∧ ∃ en, s = ⟨23, (14, .c (.int .i64 0)) :: (13, .c (.int .i64 (ks.length : Int))) :: (12, .sl fr false eEX (us.map (·.map AV.c))) :: (1, .c (.func (.yield l) #[] #[])) :: en, [], (.pointer (some ⟨b2, 0, none⟩), .ref true ([u0, u1, u2, u3].map AV.c)) :: F0, []⟩)
      (JL.q rfl rfl rfl (QW.field_ref fo32_3 (Ev.le (.tmp rfl) (.fact (List.mem_cons_self) (.refl _))) rfl) (JL.q rfl rfl rfl (QW.load_ref1 ty30 (.tmp rfl) rfl) (JL.q (x := .c (.int .i64 (ks.length : Int))) rfl rfl rfl ((QW.len_sl sl30 (Ev.le (.tmp rfl) (.fact (List.mem_cons_of_mem _ List.mem_cons_self) (.refl _)))).conv (by simp [hul]))
        (JL.q rfl rfl rfl (QW.move .const) (JL.weak (Wk.re (.cons rfl (.refl _) (.cons rfl (.refl _) (.cons rfl (.fact (List.mem_cons_of_mem _ List.mem_cons_self) (.refl _)) (.cons rfl (.refl _) .nil)))) (Reown.refl _) (fun _ h => h)) (JL.nil ⟨rfl, _, rfl⟩)))))) _ _ ⟨A4, h4⟩) ?_))
    rintro e a5 w5 ⟨s, ⟨rfl, en, rfl⟩, A5, h5⟩
    simp only [Exit.then]
    have h5' := h5.env' (env' := [(14, .c (.int .i64 ((0 : Nat) : Int))), (13, .c (.int .i64 (ks.length : Int))), (12, .sl fr false eEX (us.map (·.map AV.c))), (1, .c (.func (.yield l) #[] #[]))]) (.cons rfl (.refl _) (.cons rfl (.refl _) (.cons rfl (.refl _) (.cons rfl (.refl _) .nil))))
    obtain ⟨A6, h6, hS6, hok6⟩ := h5'.seg rfl hS3 hok3 Kp.refl
    have hJ5 := hJ _ _ _ hJ1 (grown_of_keep h5 rfl)
    have hk5 : Kp c W w5 := Kp.trans hkW (Kp.grown (grown_of_keep h5 rfl))
    refine wpIn_block ?_
    refine loop_raw (fun k a w => ∃ (j : Nat) (xs : List (EArg w0 A0 fr)) (A : Foot), k = ks.length - j ∧ j ≤ ks.length ∧ SatA ⟨w, [], A, none⟩ A ⟨23, [(14, .c (.int .i64 (j : Int))), (13, .c (.int .i64 (ks.length : Int))), (12, .sl fr false eEX (us.map (·.map AV.c))), (1, .c (.func (.yield l) #[] #[]))], [], (.pointer (some ⟨b2, 0, none⟩), .ref true ([u0, u1, u2, u3].map AV.c)) :: F0, []⟩ a w ∧
      (∀ fr b, A fr b → Sf c w b) ∧ xs.map (·.1.2) = .mk o b t ks :: EX.partsL (ks.take j) ∧ Jv (pre ++ xs) w ∧ Kp c W w) ?_ ks.length _ _ ⟨0, [⟨(.agg #[u0, u1, u2, u3], .mk o b t ks), hv, hw, hfi⟩], A6, rfl, Nat.zero_le _, h6, hS6, rfl, hJ5, hk5⟩
    rintro k a w ⟨j, xs, A, rfl, hj, hs, hS, hxs, hJx, hkx⟩
    have hokw := (hkx hok).ok
    refine wpIn_seq (wpIn_mono (J.region_lit (P := Try.prog) (E := ⟨w, [], A, none⟩) (Q := fun e s => e = .normal ∧ s = ⟨23, (15, .c (.bool (decide ((j : Int) < (ks.length : Int))))) :: [(14, .c (.int .i64 (j : Int))), (13, .c (.int .i64 (ks.length : Int))), (12, .sl fr false eEX (us.map (·.map AV.c))), (1, .c (.func (.yield l) #[] #[]))], [], (.pointer (some ⟨b2, 0, none⟩), .ref true ([u0, u1, u2, u3].map AV.c)) :: F0, []⟩)
      (JL.q rfl rfl rfl (QW.lss (.tmp rfl) (.tmp rfl)) (JL.nil ⟨rfl, rfl⟩)) _ _ ⟨A, hs⟩) ?_)
    rintro e a7 w7 ⟨s, ⟨rfl, rfl⟩, A7, h7⟩
    simp only [Exit.then]
    refine wpIn_seq (wpIn_cond_split (h7.env 15 _ rfl).eq (fun hlt' => wpIn_skip ?_) fun hge' => wpIn_exit ?_)
    · -- one kid
      have hlt : j < ks.length := by simpa using hlt'
      have hltu : j < us.length := by omega
      have huj : us[j].length = 4 := hu4 _ (List.getElem_mem _)
      have hu1j := hu1 _ (List.getElem_mem hltu)
      have hcj := huc j us[j] ((ks[j]).cs fr) (List.getElem?_eq_getElem _) (EX.css_getE fr hlt)
      have hvj : Rd w0 A0 (.agg us[j].toArray) (.agg ((ks[j]).cs fr)) := Rd.mk_agg (by simp [huj, EX.cs_len4]) hcj
      have hml : (us[j].map AV.c).length = 4 := by simp [huj]
      simp only [Exit.then]
      refine wpIn_seq (wpIn_block (wpIn_seq (wpIn_mono (J.region_lit (P := Try.prog) (E := ⟨w, [], A, none⟩) (Q := fun e s => e = .normal ∧ ∃ b6, s = ⟨23, [(6, .c (.pointer (some ⟨b6, 0, none⟩))), (14, .c (.int .i64 (j : Int))), (13, .c (.int .i64 (ks.length : Int))), (12, .sl fr false eEX (us.map (·.map AV.c))), (1, .c (.func (.yield l) #[] #[]))], [.box b6 (us[j].map AV.c)], (.pointer (some ⟨b2, 0, none⟩), .ref true ([u0, u1, u2, u3].map AV.c)) :: F0, []⟩)
        (JL.q rfl rfl rfl (QW.index_sl sl30 ty32 rfl (.tmp rfl) (.tmp rfl) rfl (by simp [hltu])) (JL.q rfl rfl rfl (QW.load_ref ty32 (.tmp rfl) (take_fullL hml) hml) (JL.alloc z32 rfl rfl fun b6 =>
          JL.store_boxF (z := .agg (us[j].map AV.c)) 0 ty32 (.tmp rfl) rfl (.tmp rfl) rfl hml rfl rfl (JL.weak (Wk.re (.cons rfl (.refl _) (.cons rfl (.refl _) (.cons rfl (.refl _) (.cons rfl (.refl _) (.cons rfl (.refl _) .nil))))) (Reown.refl _) (fun _ h => h)) (JL.nil ⟨rfl, b6, rfl⟩))))) _ _ ⟨A7, h7⟩) ?_)))
      rintro e a8 w8 ⟨s, ⟨rfl, b6, rfl⟩, A8, h8⟩
      simp only [Exit.then]
      refine wpIn_seq (JLr.region_lit (P := Try.prog) (E := ⟨w, [], A, none⟩) (JLr.q rfl rfl rfl (QW.load_box 0 ty32 (.tmp rfl) rfl (take_full hml) hml) (JLr.q rfl rfl rfl (QW.move (.tmp rfl)) (JLr.pre fun A' a' w' h' => ?_))) _ _ ⟨A8, h8⟩)
      have hg2 := grown_of_keep h' rfl
      have hkw' : KpW c w w' := (Kp.grown hg2) hokw
      have hR' : ∀ fr b, A0 fr b → Sf c w' b ∧ w'.heap[b]? = w0.heap[b]? := fun fr b hb => by
        obtain ⟨q1, q2⟩ := hR fr b hb
        obtain ⟨q3, q4⟩ := q1.keep (Kp.trans hkx (Kp.grown hg2) hok)
        exact ⟨q3, q4.trans q2⟩
      have hxl : xs.length = 1 + EX.szs (ks.take j) := by have := congrArg List.length hxs; simp only [List.length_map, List.length_cons, EX.partsL_len] at this; omega
      have hnx := EX.szs_next hlt
      have hcall := ih ks[j] (.agg us[j].toArray) (pre ++ xs) w' (EX.sz_get hsz hlt) hvj (hwk _ (List.getElem_mem _)) (hfi.kid (List.getElem_mem _)) hR' hkw'.ok (hJ _ _ _ hJx hg2) (by rw [List.length_append]; rw [EX.sz_mk] at hN; omega)
      refine wp_call gofn29 (l := [.tmp 18, .tmp 19]) (R := fun e W' => e = .returned (.bool true) ∧ ∃ ys : List (EArg w0 A0 fr), ys.map (·.1.2) = (ks[j]).parts ∧ Jv (pre ++ xs ++ ys) W' ∧ Kp c w' W') ?_ ?_
      · have e18 : a'.eval (.tmp 18) = .agg us[j].toArray := (h'.env 18 _ rfl).agg_c
        have e19 : a'.eval (.tmp 19) = .func (.yield l) #[] #[] := (h'.env 19 _ rfl).eq
        simp only [List.map_toArray, List.map_cons, List.map_nil, e18, e19]
        exact hcall
      · rintro e W2 ⟨rfl, ys, hys, hJ2, hk2⟩
        refine ⟨_, rfl, ?_⟩
        obtain ⟨A9, h9, hS9, hok9⟩ := h'.seg rfl hS hokw hk2
        have h9' := h9.put (d := 20) (v := .bool true) (by decide) (.c (.bool true))
        refine (JLr.q (E := ⟨W2, [], A9, none⟩) rfl rfl rfl (QW.not (.tmp rfl)) (JLr.nil fun a w hs => ?_) : JLr Try.prog ⟨W2, [], A9, none⟩ _ _ _ _) _ _ ⟨A9, h9'⟩
        obtain ⟨A10, h10⟩ := hs
        simp only [Exit.then]
        refine wpIn_cond_split (h10.env 21 _ rfl).eq (fun h => by cases h) fun _ => wpIn_skip ?_
        simp only [Exit.inBlock, Exit.then]
        refine wpIn_mono (J.region_lit (P := Try.prog) (E := ⟨W2, [], A9, none⟩) (Q := fun e s => e = .normal ∧ s = ⟨23, [(14, .c (.int .i64 ((j + 1 : Nat) : Int))), (13, .c (.int .i64 (ks.length : Int))), (12, .sl fr false eEX (us.map (·.map AV.c))), (1, .c (.func (.yield l) #[] #[]))], [], (.pointer (some ⟨b2, 0, none⟩), .ref true ([u0, u1, u2, u3].map AV.c)) :: F0, []⟩)
          (JL.q rfl rfl rfl (QW.add (c := ((j + 1 : Nat) : Int)) (.tmp rfl) .const (w64n (by omega) (by omega))) (JL.q rfl rfl rfl (QW.move (.tmp rfl)) (JL.weak (Wk.re (.cons rfl (.refl _) (.cons rfl (.refl _) (.cons rfl (.refl _) (.cons rfl (.refl _) .nil)))) (Reown.refl _) (fun _ h => h)) (JL.nil ⟨rfl, rfl⟩)))) _ _ ⟨A10, h10⟩) ?_
        rintro e a11 w11 ⟨s, ⟨rfl, rfl⟩, A11, h11⟩
        obtain ⟨A12, h12, hS12, hok12⟩ := h11.seg rfl hS9 hok9 Kp.refl
        refine ⟨ks.length - (j + 1), by omega, j + 1, xs ++ ys, A12, rfl, hlt, h12, hS12, ?_, ?_, ?_⟩
        · rw [List.map_append, hxs, hys, EX.partsL_take hlt, List.cons_append]
        · rw [← List.append_assoc]; exact hJ _ _ _ hJ2 (grown_of_keep h11 rfl)
        · exact Kp.trans hkx (Kp.trans (Kp.grown hg2) (Kp.trans hk2 (Kp.grown (grown_of_keep h11 rfl))))
    · have hge : ks.length ≤ j := by simpa using hge'
      obtain rfl : j = ks.length := by omega
      simp only [Exit.then, Exit.inBlock, if_true]
      refine wpIn_seq (wpIn_mono (J.region_lit (P := Try.prog) (E := ⟨w, [], A, none⟩) (Q := fun e s => e = .normal ∧ ∃ en, s = ⟨23, (4, .c (.bool true)) :: en, [], (.pointer (some ⟨b2, 0, none⟩), .ref true ([u0, u1, u2, u3].map AV.c)) :: F0, []⟩)
        (JL.q rfl rfl rfl (QW.assign .const) (JL.nil ⟨rfl, _, rfl⟩)) _ _ ⟨A7, h7⟩) ?_)
      rintro e a8 w8 ⟨s, ⟨rfl, en, rfl⟩, A8, h8⟩
      simp only [Exit.then]
      refine wpIn_ret ?_
      obtain ⟨v, hv1, hv2⟩ := (RetEv.one (fn := Try.f29) rfl (REv.tmp (x := .c (.bool true)) rfl (.refl _)) : RetEv Try.prog _ _ _) _ _ _ _ h8
      obtain rfl := hv2.eq
      refine ⟨h8.defers, _, hv1, rfl, xs, ?_, hJ _ _ _ hJx (grown_of_keep h8 rfl), Kp.trans hkx (Kp.grown (grown_of_keep h8 rfl))⟩
      rw [hxs, List.take_length]; rfl
end Go.Proofs.Ytlppnhkjonmniaa.J

/- A number's eight octets. -/
namespace Go.Proofs.Ytlppnhkjonmniaa.J
open Go Go.RowKit
set_option linter.unusedVariables false
set_option linter.unusedSimpArgs false
def be8 (b : Nat) : List UInt8 := (List.range 8).map fun j => UInt8.ofNat (b / 2 ^ (56 - 8 * j) % 256)
theorem be8_length (b : Nat) : (be8 b).length = 8 := rfl
theorem shr8 {b j : Nat} (hj : j < 8) : (b : Int).fdiv (2 ^ (min ((56 : Int) - 8 * (j : Int)).toNat IntKind.u64.bits)) = ((b / 2 ^ (56 - 8 * j) : Nat) : Int) := by
  rw [← shr_nat]
  congr 2
  have : IntKind.u64.bits = 64 := rfl
  omega
theorem be8_get {b j : Nat} (hj : j < 8) : (be8 b)[j]? = some (UInt8.ofNat (b / 2 ^ (56 - 8 * j) % 256)) := by simp [be8, hj]
theorem be8_take {b j : Nat} (hj : j < 8) : (be8 b).take (j + 1) = (be8 b).take j ++ [UInt8.ofNat (b / 2 ^ (56 - 8 * j) % 256)] := by
  rw [List.take_add_one, be8_get hj]; rfl
theorem bytesAV_one {n : Nat} (h : n < 256) : bytesAV [UInt8.ofNat n] = [[.c (.int .u8 (n : Int))]] := by
  simp [bytesAV]; omega
theorem bytesAV_cons {n : Nat} (h : n < 256) (l : List UInt8) : bytesAV (UInt8.ofNat n :: l) = [[.c (.int .u8 (n : Int))]] ++ bytesAV l := by
  rw [← bytesAV_one h, ← bytesAV_append]; rfl
theorem bytesAV_snoc {n : Nat} (h : n < 256) (l : List UInt8) : bytesAV (l ++ [UInt8.ofNat n]) = bytesAV l ++ [[.c (.int .u8 (n : Int))]] := by rw [bytesAV_append, bytesAV_one h]
/-! ### octets of expressions -/
def EX.oct1 (e : EX) : List UInt8 := UInt8.ofNat e.op.toNat :: (if e.op = 3 then be8 e.bits else if e.op = 4 ∨ e.op = 8 ∨ e.op = 25 then UInt8.ofNat e.text.length :: e.text else if e.op = 23 then [UInt8.ofNat e.args.length] else [])
def octL (l : List EX) : List UInt8 := l.flatMap EX.oct1
def EX.enc (e : EX) : List UInt8 := octL e.parts
theorem octL_append (l r : List EX) : octL (l ++ r) = octL l ++ octL r := by simp [octL]
theorem EX.Fine.bounds {e : EX} (h : e.Fine) : 0 ≤ e.op ∧ e.op < 30 ∧ e.text.length ≤ 128 ∧ e.args.length ≤ 8 := by
  cases h with | mk h _ => exact EX.ok_bounds h
theorem EX.oct1_len {e : EX} (h : e.Fine) : e.oct1.length ≤ 130 := by
  have := h.bounds
  unfold EX.oct1
  repeat' split
  all_goals simp [be8_length]
  omega
theorem octL_len : ∀ {l : List EX}, (∀ e ∈ l, e.Fine) → (octL l).length ≤ 130 * l.length
  | [], _ => by simp [octL]
  | e :: l, h => by
    have h1 := EX.oct1_len (h e (by simp))
    have h2 := octL_len (l := l) fun x hx => h x (by simp [hx])
    simp only [octL, List.flatMap_cons, List.length_append, List.length_cons] at h2 ⊢
    omega
end Go.Proofs.Ytlppnhkjonmniaa.J

/- Walks: numbers (the package float), first part. -/
namespace Go.Proofs.Ytlppnhkjonmniaa.J
open Go Go.RowKit
set_option linter.unusedVariables false
set_option linter.unusedSimpArgs false
set_option maxRecDepth 10000
set_option maxHeartbeats 4000000
theorem of_ok (b : Nat) : Fn Try.prog 44 [.c (flt b)] (.c (.int .u64 (canonN b : Int))) := by
  refine AC.of_J Try.func44 rfl Try.ntmps44 rfl fun w0 A0 => ?_
  refine J.seq ?_
  refine J.region_lit ?_
  refine JL.q rfl rfl rfl (QW.assign .const) ?_
  refine JL.nil ?_
  refine thenQ.n ?_
  refine J.seq ?_
  refine J.seq ?_
  refine J.region_lit ?_
  refine JL.q rfl rfl rfl (QW.move (.tmp rfl)) ?_
  refine JL.q rfl rfl rfl (QW.move (.tmp rfl)) ?_
  refine JL.q rfl rfl rfl (QW.neq_f (.tmp rfl) (.tmp rfl)) ?_
  refine JL.nil ?_
  refine thenQ.n ?_
  refine J.cond (.tmp rfl) (fun c1 => ?_) (fun c1 => ?_)
  · skip
    refine J.seq ?_
    refine J.region_lit ?_
    refine JL.q rfl rfl rfl (QW.assign .const) ?_
    refine JL.nil ?_
    refine thenQ.n ?_
    refine J.ret ?_
    refine thenQ.r ?_
    exact ⟨_, [], _, RetEv.one rfl (REv.tmp rfl (.refl _)), rfl, List.Perm.refl _, by rw [fneq_self] at c1; simp [canonN, c1, oneNan], rfl⟩
  · skip
    refine J.skip ?_
    refine thenQ.n ?_
    refine J.seq ?_
    refine J.region_lit ?_
    refine JL.q rfl rfl rfl (QW.move (.tmp rfl)) ?_
    refine JL.q rfl rfl rfl (QW.ext (extBits _) (.tmp rfl)) ?_
    refine JL.q rfl rfl rfl (QW.assign (.tmp rfl)) ?_
    refine JL.nil ?_
    refine thenQ.n ?_
    refine J.ret ?_
    exact ⟨_, [], _, RetEv.one rfl (REv.tmp rfl (.refl _)), rfl, List.Perm.refl _, by rw [fneq_self] at c1; simp [canonN, c1], rfl⟩
theorem canon_ok (b : Nat) : Fn Try.prog 39 [.c (.int .u64 (b : Int))] (.c (.int .u64 (canonN b : Int))) := by
  refine AC.of_J Try.func39 rfl Try.ntmps39 rfl fun w0 A0 => ?_
  refine J.seq ?_
  refine J.region_lit ?_
  refine JL.q rfl rfl rfl (QW.assign .const) ?_
  refine JL.nil ?_
  refine thenQ.n ?_
  refine J.seq ?_
  refine J.region_lit ?_
  refine JL.q rfl rfl rfl (QW.move (.tmp rfl)) ?_
  refine JL.q rfl rfl rfl (QW.ext (extFrom _) (.tmp rfl)) ?_
  refine JL.q rfl rfl rfl (QW.call gofn44 (.cons (.tmp rfl) .nil) (by (apply of_ok <;> first | assumption | omega))) ?_
  refine JL.q rfl rfl rfl (QW.assign (.tmp rfl)) ?_
  refine JL.nil ?_
  refine thenQ.n ?_
  refine J.ret ?_
  exact ⟨_, [], _, RetEv.one rfl (REv.tmp rfl (.refl _)), rfl, List.Perm.refl _, rfl, rfl⟩
end Go.Proofs.Ytlppnhkjonmniaa.J

/- Walks: the page's own classes of numbers (the package fanlightref01), for the seats that reach no more of it. -/
namespace Go.Proofs.Ytlppnhkjonmniaa.J
open Go Go.RowKit
set_option linter.unusedVariables false
set_option linter.unusedSimpArgs false
set_option maxRecDepth 10000
set_option maxHeartbeats 4000000
end Go.Proofs.Ytlppnhkjonmniaa.J

