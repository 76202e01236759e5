/- At every list of segments WriteSegs answers as the specification, for all inputs that the law's guard lets in. -/
import Derived.Test.YticlmpkbcmanfaaRows
import Derived.Test.YticlmpkbcmanfaaPFnExactWriteSegsx6
import Derived.Test.YticlmpkbcmanfaaPureFnExactWriteSegs
import Derived.WalkKit
import Derived.ProofKit
import Derived.OpenShut
import Derived.ShutString
import Derived.ChangeOld
import Derived.Below
import Derived.SizedLaws
import Derived.Deep.Slices
import Derived.Deep.Strs
import Derived.Test.YticlmpkbcmanfaaWSized
namespace Go.Proofs.Yticlmpkbcmanfaa.fnExactWriteSegs
open Go.ChangeShapes Go.WideShapes Go.ChangeAt Go.RowKit Go.Proofs.YticlmpkbcmanfaaW.PrintWords Go.Proofs.Yticlmpkbcmanfaa.PFnExactWriteSegs
open Go.ChangeMaps (open_string shut_string)
set_option linter.unusedVariables false
set_option linter.unusedSimpArgs false
theorem own : ownKnob Try.prog.godebug = none := by kernel_rfl
theorem laidOut : laidOutB Try.prog = true := by kernel_rfl
section
variable {H : Type} {enc : TypeId × Value → H} {P : Program} {w : World} {base : Nat} {spare : Nat → Bool} {held : Bool}
theorem open_rows {α : Type} [Inhabited α] (d : Kd α) (Q : α → Prop) {t e : TypeId} (hu : P.underlying t = some (.slice e)) (hc : P.cellsOf e = d.sz)
    (helem : ∀ (fuel : Nat) (cs : List Value) (x : DataW H × List MemPlace), DataW.trod enc P w base spare held fuel e cs = some x → ∃ v : α, d.K w v cs ∧ Q v)
    {a : Option Addr} {len cap : Nat} {dd : DataW H} {ps : List MemPlace} (h : DataW.Trod enc P w base spare held t (.slice a len cap) dd ps) :
    ∃ l : List α, l.length = len ∧ len ≤ cap ∧ cap ≤ maxLen ∧ Kd.C d w a len l ∧ ∀ x ∈ l, Q x := by
  obtain ⟨fuel, hf⟩ := h
  rcases Go.Deep.open_slice hu hf with ⟨hcs, _⟩ | ⟨ad, len', cap', m, n, D, Pl, hcs, hb, hl, hm, hmm, hx, hel⟩
  · simp [Value.cells] at hcs
    obtain ⟨rfl, rfl, rfl⟩ := hcs
    exact ⟨[], rfl, by omega, by unfold maxLen; omega, ⟨rfl, by omega, fun h => absurd h (by omega)⟩, by simp⟩
  · simp [Value.cells] at hcs
    obtain ⟨rfl, rfl, rfl⟩ := hcs
    have hlm : len ≤ m := by rw [hmm]; split <;> omega
    obtain ⟨V, hV⟩ := Go.Deep.choose_lt (α := α × List Value) (n := len) (p := fun i v => w.cells? base (ad.add (i * P.cellsOf e)) (P.cellsOf e) = some v.2 ∧ d.K w v.1 v.2 ∧ Q v.1) (fun i hi => by
      obtain ⟨cs', h1, h2⟩ := hel i (by omega)
      obtain ⟨v, h3, h4⟩ := helem _ _ _ h2
      exact ⟨(v, cs'), h1, h3, h4⟩)
    refine ⟨(List.range len).map fun i => (V i).1, by simp, hl, hm, ⟨by simp, ?_, fun _ => ⟨ad, rfl, fun j p hj => ?_⟩⟩, ?_⟩
    · unfold maxLen at hm; omega
    · have hjl : j < len := by have := (List.getElem?_eq_some_iff.1 hj).1; simpa using this
      have hp : p = (V j).1 := by
        rw [List.getElem?_map, List.getElem?_range hjl] at hj
        simpa using hj.symm
      subst hp
      obtain ⟨h1, h2, h3⟩ := hV j hjl
      refine ⟨(V j).2, d.K_len h2, h2, fun i u hu => ?_⟩
      obtain ⟨_, hlen, hcell⟩ := World.cells?_some h1
      have hi : i < P.cellsOf e := by rw [← hlen]; exact (List.getElem?_eq_some_iff.1 hu).1
      have hc2 := hcell i hi
      rw [hu, hc] at hc2
      rw [← hc2, Addr.add_add]
    · intro x hx
      obtain ⟨i, hi, rfl⟩ := List.mem_map.1 hx
      exact (hV i (List.mem_range.1 hi)).2.2
end
set_option maxRecDepth 100000 in
theorem elem {H : Type} {enc : TypeId × Value → H} {w : World} {base : Nat} {spare : Nat → Bool} {held : Bool} (fuel : Nat) (cs : List Value) (x : DataW H × List MemPlace) (h : DataW.trod enc Try.prog w base spare held fuel 93 cs = some x) : ∃ v : S93, k93.K w v cs ∧ v.f1.length ≤ 9223372036854775807 := by
  obtain ⟨xs, n, _, _, hl, hlen, hf⟩ := DataW.trod_struct Try.underlying93 h
  have hc : Try.prog.cellsOf 93 = 2 := by kernel_rfl
  have hc3 : Try.prog.cellsOf 3 = 1 := by kernel_rfl
  have hcs : Try.prog.cellsOf 24 = 1 := by kernel_rfl
  rw [hc] at hl
  have hs : xs.length = 2 := hlen
  obtain ⟨c0, c1, rfl⟩ : ∃ c0 c1, cs = [c0, c1] := by
    clear h hf
    match cs, hl with
    | [a, b], _ => exact ⟨a, b, rfl⟩
  have a0 : DataW.trod enc Try.prog w base spare held n 3 (([c0, c1].drop 0).take (Try.prog.cellsOf 3)) = xs[0]? := hf 0 _ rfl
  have a1 : DataW.trod enc Try.prog w base spare held n 24 (([c0, c1].drop 1).take (Try.prog.cellsOf 24)) = xs[1]? := hf 1 _ rfl
  rw [hc3] at a0
  rw [hcs] at a1
  rw [List.getElem?_eq_getElem (by omega)] at a0 a1
  obtain ⟨n0, e0, _, w0⟩ := DataW.trod_int Try.underlying3 a0
  simp at e0
  subst e0
  have form : ∃ a len cap, c1 = .slice a len cap := by
    rcases Go.Deep.open_slice Try.underlying24 a1 with ⟨hx, _⟩ | ⟨ad, len', cap', m, n', D, Pl, hx, _⟩
    · simp at hx; exact ⟨_, _, _, hx⟩
    · simp at hx; exact ⟨_, _, _, hx⟩
  obtain ⟨a, len, cap, rfl⟩ := form
  obtain ⟨l, hll, hlc, hcm, hC, _⟩ := open_rows (a := a) (len := len) (cap := cap) (Kd.int .u8) (fun _ => True) Try.underlying24 (by kernel_rfl) (fun fuel cs x hx => by
    obtain ⟨n1, e1, _, w1⟩ := DataW.trod_int Try.underlying5 hx
    exact ⟨n1, e1, trivial⟩) ⟨n, a1⟩
  subst hll
  refine ⟨⟨n0, l⟩, k93_mk w ⟨n0, l⟩ hlc hC, ?_⟩
  show l.length ≤ 9223372036854775807
  unfold maxLen at hcm; omega
set_option maxRecDepth 100000 in
theorem lifted (os : Os) (started : os.Started) (H : Type) (enc : TypeId × Value → H) :
    ReturnsInHanded {} Try.checked os 11 .any (Rows.fnExactWriteSegsSpec.pre6 enc Try.prog Try.f11 Rows.fnExactWriteSegsRow.domain false) (Rows.fnExactWriteSegsSpec.post enc Try.prog Try.f11 false true false false) := by
  refine returnsInHanded_of_change_sized (C := Try.checked) own started (by kernel_rfl) Try.func11
    (ChangeSpec.witness6 (enc := enc) (C := Try.checked) false ⟨#[], #[.slice none 0 0], []⟩ 8 (by kernel_rfl) (by kernel_rfl) (by kernel_rfl) (by kernel_rfl)) ?_
  intro W base args ds gs before hval0 hW hcnd hsz0 _
  have hsz : (DataW.weightsEach Try.prog (Try.f11.params.toList ++ Rows.fnExactWriteSegsSpec.plain.varTypes Try.prog) (ds ++ gs)).all (· ≤ reachBytes) = true := hsz0
  have hval : ∀ (j : Nat) t v, Try.f11.params[j]? = some t → args[j]? = some v → Value.okWide Try.prog W .any base t v := hval0
  have hW' := hW
  obtain ⟨p, q, hA0, hV, rfl, hfz, hnd⟩ := hW
  have hA : DataW.TrodAll enc Try.prog W 0 (fun _ => true) true Try.f11.params.toList args.toList ds p := hA0
  rw [Try.params11] at hA hval hsz
  obtain ⟨v0, vs0, d0, ds0, p0, q0, hargs, rfl, rfl, h0, r0⟩ := trodAll_cons hA
  obtain ⟨rfl, rfl, rfl⟩ := trodAll_nil r0
  obtain rfl : args = #[v0] := by cases args; simp_all
  obtain ⟨rfl, rfl⟩ := trodVars_none hV
  obtain ⟨a0, len0, cap0, rfl⟩ := okWide_slice Try.underlying57 (hval 0 57 v0 rfl rfl)
  have k0 := h0
  have lt0 : ∀ x ∈ p0, x.block < W.heap.size := by obtain ⟨m, hm⟩ := k0; exact DataW.trod_lt m _ _ _ hm
  haveI : Inhabited S93 := ⟨z93⟩
  obtain ⟨l, hl, hlc, hcm, hC, hQ⟩ := open_rows k93 (fun v => v.f1.length ≤ 9223372036854775807) Try.underlying57 (by kernel_rfl) (fun fuel cs x => elem fuel cs x) h0
  subst hl
  obtain ⟨k, hk⟩ := Pure.FnExactWriteSegs l (by omega) hQ
  clear hA0 hval0 hsz0 hsz
  refine (laws_FnExactWriteSegs.calls k a0 cap0 l true W hC hlc hk).mono fun e W' ⟨he, bel⟩ => ?_
  subst he
  exact ⟨_, rfl, _, _, _, [], _, [], hW', trodAll_mk1 (shut_bool Try.underlying4 _), (trodAll_cons_mk (Below.trod laidOut (by kernel_rfl) (of_decide_eq_true (by kernel_rfl)) k0 bel lt0) trodAll_mk0), rfl, bel.frame _, fun h => by cases h⟩
theorem over : Rows.fnExactWriteSegsRow.holds Try.pinned (OpenSpec.ofChange Rows.fnExactWriteSegsSpec) :=
  OpenClaim.holds_of_wide 11 Try.f11 rfl rfl rfl rfl rfl rfl rfl ⟨rfl, rfl, rfl, rfl, rfl⟩ rfl rfl rfl rfl rfl (by kernel_rfl) Try.func11 (by kernel_rfl)
    (of_decide_eq_true (by kernel_rfl)) (by unfold Func.isWrapper; first | (rw [if_pos (by decide +kernel)]; kernel_rfl) | (rw [if_neg (by decide +kernel)]; exact ⟨rfl, rfl⟩))
    (fun os started H enc _ => lifted os started H enc)
theorem proved : Rows.FnExactWriteSegsSaid := over
#print axioms proved
end Go.Proofs.Yticlmpkbcmanfaa.fnExactWriteSegs
namespace Go.Proofs.Yticlmpkbcmanfaa
/-- The row, under a short name, for the claim. -/
theorem fnExactWriteSegs_holds : Rows.FnExactWriteSegsSaid := fnExactWriteSegs.proved
end Go.Proofs.Yticlmpkbcmanfaa
