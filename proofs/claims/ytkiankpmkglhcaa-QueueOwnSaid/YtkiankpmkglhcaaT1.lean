/- What the inputs of these laws read as: values, events, queues. -/
import Derived.Test.YtkiankpmkglhcaaT0
import Derived.Test.YtkiankpmkglhcaaQ0
import Derived.Test.YtkiankpmkglhcaaFacts
namespace Go.Proofs.Ytkiankpmkglhcaa.J
open Go Go.RowKit
set_option linter.unusedVariables false
set_option linter.unusedSimpArgs false
set_option maxRecDepth 10000
set_option maxHeartbeats 4000000

theorem V.rd {H : Type} {enc : TypeId × Value → H} {w : World} : ∀ (fuel : Nat) (cs : List Value) (x : DataW H × List MemPlace), trd enc Try.prog w fuel 26 cs = some x → Fits Try.prog 26 x.1 → ∃ v : V, v.wf ∧ RdC w cs (v.cs false) := by
  intro fuel
  induction fuel using Nat.strongRecOn with
  | _ fuel ih =>
  intro cs x h hf
  obtain ⟨xs, n, rfl, rfl, hl, hlen, hg⟩ := DataW.trod_struct Try.underlying26 h
  obtain ⟨y0, y1, y2, y3, y4, rfl⟩ : ∃ y0 y1 y2 y3 y4, xs = [y0, y1, y2, y3, y4] := by
    match xs, hlen with
    | [y0, y1, y2, y3, y4], _ => exact ⟨y0, y1, y2, y3, y4, rfl⟩
  have h0 := hg 0 _ rfl
  obtain ⟨a0, b0, r0⟩ := rd_i64 Try.underlying3 h0
  have h1 := hg 1 _ rfl
  obtain ⟨a1, b1, r1⟩ := rd_u64 Try.underlying22 h1
  have h2 := hg 2 _ rfl
  obtain ⟨a2, b2, r2⟩ := rd_str Try.underlying9 h2 (Fits.field Try.underlying26 hf (i := 2) rfl rfl)
  have h3 := hg 3 _ rfl
  obtain ⟨a3, b3, c3, r3⟩ := rd_slice (ei := eStr) (f := fun s => [.c (str s)]) (Wf := fun s => s.length ≤ reach) Try.underlying23 (by kernel_rfl) (by kernel_rfl) (by decide) h3 (Fits.field Try.underlying26 hf (i := 3) rfl rfl) (fun _ => rfl) (fun m cs' y hm hy hfy => rd_str Try.underlying9 hy hfy)
  have h4 := hg 4 _ rfl
  obtain ⟨a4, b4, c4, r4⟩ := rd_slice (ei := eV) (f := V.cs false) (Wf := V.wf) Try.underlying24 (by kernel_rfl) (by kernel_rfl) (by decide) h4 (Fits.field Try.underlying26 hf (i := 4) rfl rfl) (fun _ => V.cs_length false _) (fun m cs' y hm hy hfy => ih m (by omega) cs' y hy hfy)
  refine ⟨.mk a0 a1 a2 a3 a4, .mk b0 b1 b2 c3 c4 b3 b4, ?_⟩
  have := (RdC.join r0 (by kernel_rfl) (by kernel_rfl) ((RdC.join r1 (by kernel_rfl) (by kernel_rfl) ((RdC.join r2 (by kernel_rfl) (by kernel_rfl) ((RdC.join r3 (by kernel_rfl) (by kernel_rfl) (RdC.last r4 (hl.trans (by kernel_rfl))))))))))
  simpa [V.cs, keysAV, V.css_eq] using this

theorem EvT.rd {H : Type} {enc : TypeId × Value → H} {w : World} : ∀ (fuel : Nat) (cs : List Value) (x : DataW H × List MemPlace), trd enc Try.prog w fuel 70 cs = some x → Fits Try.prog 70 x.1 → ∃ v : EvT, v.wf ∧ RdC w cs (v.cs false) := by
  intro fuel
  intro cs x h hf
  obtain ⟨xs, n, rfl, rfl, hl, hlen, hg⟩ := DataW.trod_struct Try.underlying70 h
  obtain ⟨y0, y1, rfl⟩ : ∃ y0 y1, xs = [y0, y1] := by
    match xs, hlen with
    | [y0, y1], _ => exact ⟨y0, y1, rfl⟩
  have h0 := hg 0 _ rfl
  obtain ⟨a0, b0, r0⟩ := rd_str Try.underlying9 h0 (Fits.field Try.underlying70 hf (i := 0) rfl rfl)
  have h1 := hg 1 _ rfl
  obtain ⟨a1, b1, r1⟩ := V.rd n _ _ h1 (Fits.field Try.underlying70 hf (i := 1) rfl rfl)
  refine ⟨⟨a0, a1⟩, ⟨b0, b1⟩, ?_⟩
  have := (RdC.join r0 (by kernel_rfl) (by kernel_rfl) (RdC.last r1 (hl.trans (by kernel_rfl))))
  simpa [EvT.cs] using this

theorem QT.rd {H : Type} {enc : TypeId × Value → H} {w : World} : ∀ (fuel : Nat) (cs : List Value) (x : DataW H × List MemPlace), trd enc Try.prog w fuel 61 cs = some x → Fits Try.prog 61 x.1 → ∃ v : QT, v.wf ∧ RdC w cs (v.cs false) := by
  intro fuel
  intro cs x h hf
  obtain ⟨xs, n, rfl, rfl, hl, hlen, hg⟩ := DataW.trod_struct Try.underlying61 h
  obtain ⟨y0, y1, y2, rfl⟩ : ∃ y0 y1 y2, xs = [y0, y1, y2] := by
    match xs, hlen with
    | [y0, y1, y2], _ => exact ⟨y0, y1, y2, rfl⟩
  have h0 := hg 0 _ rfl
  obtain ⟨a0, b0, r0⟩ := rd_i64 Try.underlying3 h0
  have h1 := hg 1 _ rfl
  obtain ⟨a1, b1, r1⟩ := rd_i64 Try.underlying3 h1
  have h2 := hg 2 _ rfl
  obtain ⟨a2, b2, c2, r2⟩ := rd_slice (ei := eEv) (f := EvT.cs false) (Wf := EvT.wf) Try.underlying56 (by kernel_rfl) (by kernel_rfl) (by decide) h2 (Fits.field Try.underlying61 hf (i := 2) rfl rfl) (fun _ => EvT.cs_length false _) (fun m cs' y hm hy hfy => EvT.rd m cs' y hy hfy)
  refine ⟨⟨a0, a1, a2⟩, ⟨b0, b1, ⟨c2, b2⟩⟩, ?_⟩
  have := (RdC.join r0 (by kernel_rfl) (by kernel_rfl) ((RdC.join r1 (by kernel_rfl) (by kernel_rfl) (RdC.last r2 (hl.trans (by kernel_rfl))))))
  simpa [QT.cs, EvT.css] using this

end Go.Proofs.Ytkiankpmkglhcaa.J
