/- At every frame and list of components OrderOf answers as the specification, for all inputs that the law's guard lets in. -/
import Derived.Test.YtbhfimbikooccaaRows
import Derived.Test.YtbhfimbikooccaaPFnExactOrderOfx12
import Derived.Test.YtbhfimbikooccaaPureFnExactOrderOf
import Derived.WalkKit
import Derived.ProofKit
import Derived.OpenShut
import Derived.ShutString
import Derived.ChangeOld
import Derived.Below
import Derived.SizedLaws
import Derived.Deep.Slices
import Derived.Deep.Strs
import Derived.Test.YtbhfimbikooccaaVFnExactOrderOf
namespace Go.Proofs.Ytbhfimbikooccaa.fnExactOrderOf
open Go.ChangeShapes Go.WideShapes Go.ChangeAt Go.RowKit Go.Proofs.YtbhfimbikooccaaW.PrintWords Go.Proofs.Ytbhfimbikooccaa.PFnExactOrderOf
open Go.ChangeMaps (open_string shut_string)
set_option linter.unusedVariables false
set_option linter.unusedSimpArgs false
theorem own : ownKnob Try.prog.godebug = none := by kernel_rfl
theorem laidOut : laidOutB Try.prog = true := by kernel_rfl
section
variable {H : Type} {enc : TypeId × Value → H} {P : Program} {w : World} {base : Nat} {spare : Nat → Bool} {held : Bool}
theorem open_rows {α : Type} [Inhabited α] (d : Kd α) (Q : α → Prop) {t e : TypeId} (hu : P.underlying t = some (.slice e)) (hc : P.cellsOf e = d.sz)
    (helem : ∀ (fuel : Nat) (cs : List Value) (x : DataW H × List MemPlace), DataW.trod enc P w base spare held fuel e cs = some x → ∃ v : α, d.K w v cs ∧ Q v)
    {a : Option Addr} {len cap : Nat} {dd : DataW H} {ps : List MemPlace} (h : DataW.Trod enc P w base spare held t (.slice a len cap) dd ps) :
    ∃ l : List α, l.length = len ∧ len ≤ cap ∧ cap ≤ maxLen ∧ Kd.C d w a len l ∧ ∀ x ∈ l, Q x := by
  obtain ⟨fuel, hf⟩ := h
  rcases Go.Deep.open_slice hu hf with ⟨hcs, _⟩ | ⟨ad, len', cap', m, n, D, Pl, hcs, hb, hl, hm, hmm, hx, hel⟩
  · simp [Value.cells] at hcs
    obtain ⟨rfl, rfl, rfl⟩ := hcs
    exact ⟨[], rfl, by omega, by unfold maxLen; omega, ⟨rfl, by omega, fun h => absurd h (by omega)⟩, by simp⟩
  · simp [Value.cells] at hcs
    obtain ⟨rfl, rfl, rfl⟩ := hcs
    have hlm : len ≤ m := by rw [hmm]; split <;> omega
    obtain ⟨V, hV⟩ := Go.Deep.choose_lt (α := α × List Value) (n := len) (p := fun i v => w.cells? base (ad.add (i * P.cellsOf e)) (P.cellsOf e) = some v.2 ∧ d.K w v.1 v.2 ∧ Q v.1) (fun i hi => by
      obtain ⟨cs', h1, h2⟩ := hel i (by omega)
      obtain ⟨v, h3, h4⟩ := helem _ _ _ h2
      exact ⟨(v, cs'), h1, h3, h4⟩)
    refine ⟨(List.range len).map fun i => (V i).1, by simp, hl, hm, ⟨by simp, ?_, fun _ => ⟨ad, rfl, fun j p hj => ?_⟩⟩, ?_⟩
    · unfold maxLen at hm; omega
    · have hjl : j < len := by have := (List.getElem?_eq_some_iff.1 hj).1; simpa using this
      have hp : p = (V j).1 := by
        rw [List.getElem?_map, List.getElem?_range hjl] at hj
        simpa using hj.symm
      subst hp
      obtain ⟨h1, h2, h3⟩ := hV j hjl
      refine ⟨(V j).2, d.K_len h2, h2, fun i u hu => ?_⟩
      obtain ⟨_, hlen, hcell⟩ := World.cells?_some h1
      have hi : i < P.cellsOf e := by rw [← hlen]; exact (List.getElem?_eq_some_iff.1 hu).1
      have hc2 := hcell i hi
      rw [hu, hc] at hc2
      rw [← hc2, Addr.add_add]
    · intro x hx
      obtain ⟨i, hi, rfl⟩ := List.mem_map.1 hx
      exact (hV i (List.mem_range.1 hi)).2.2
end
theorem elemComp {H : Type} {enc : TypeId × Value → H} {w : World} {base : Nat} {spare : Nat → Bool} {held : Bool} (fuel : Nat) (cs : List Value) (x : DataW H × List MemPlace) (h : DataW.trod enc Try.prog w base spare held fuel 88 cs = some x) : ∃ v : S88, k88.K w v cs ∧ True := by
  obtain ⟨xs, n, _, _, hl, hlen, hf⟩ := DataW.trod_struct Try.underlying88 h
  have hc : Try.prog.cellsOf 88 = 4 := by kernel_rfl
  have hc3 : Try.prog.cellsOf 3 = 1 := by kernel_rfl
  rw [hc] at hl
  have hs : xs.length = 4 := hlen
  match cs, hl with
  | [c0, c1, c2, c3], _ =>
    have a0 : DataW.trod enc Try.prog w base spare held n 3 (([c0, c1, c2, c3].drop 0).take (Try.prog.cellsOf 3)) = xs[0]? := hf 0 _ rfl
    have a1 : DataW.trod enc Try.prog w base spare held n 3 (([c0, c1, c2, c3].drop 1).take (Try.prog.cellsOf 3)) = xs[1]? := hf 1 _ rfl
    have a2 : DataW.trod enc Try.prog w base spare held n 3 (([c0, c1, c2, c3].drop 2).take (Try.prog.cellsOf 3)) = xs[2]? := hf 2 _ rfl
    have a3 : DataW.trod enc Try.prog w base spare held n 3 (([c0, c1, c2, c3].drop 3).take (Try.prog.cellsOf 3)) = xs[3]? := hf 3 _ rfl
    rw [hc3] at a0 a1 a2 a3
    rw [List.getElem?_eq_getElem (by omega)] at a0 a1 a2 a3
    obtain ⟨n0, e0, _, w0⟩ := DataW.trod_int Try.underlying3 a0
    obtain ⟨n1, e1, _, w1⟩ := DataW.trod_int Try.underlying3 a1
    obtain ⟨n2, e2, _, w2⟩ := DataW.trod_int Try.underlying3 a2
    obtain ⟨n3, e3, _, w3⟩ := DataW.trod_int Try.underlying3 a3
    simp at e0 e1 e2 e3
    subst e0 e1 e2 e3
    exact ⟨⟨n0, n1, n2, n3⟩, k88_mk w ⟨n0, n1, n2, n3⟩, trivial⟩
theorem open_frame {H : Type} {enc : TypeId × Value → H} {w : World} {base : Nat} {spare : Nat → Bool} {held : Bool} {rr : Reach} {b0 : Nat} {v : Value} {d : DataW H} {ps : List MemPlace} (hv : Value.okWide Try.prog w rr b0 24 v) (h : DataW.Trod enc Try.prog w base spare held 24 v d ps) :
    ∃ (p wd hg r : Int) (a : Option Addr) (cap : Nat) (l : List S88), v = .agg #[.int .i64 p, .int .i64 wd, .int .i64 hg, .int .i64 r, .slice a l.length cap] ∧ l.length ≤ cap ∧ cap ≤ maxLen ∧ Kd.C k88 w a l.length l := by
  obtain ⟨cs, rfl, hsz⟩ := okWide_struct Try.underlying24 hv
  have hc : Try.prog.cellsOf 24 = 5 := by kernel_rfl
  have hc3 : Try.prog.cellsOf 3 = 1 := by kernel_rfl
  have hcs : Try.prog.cellsOf 22 = 1 := by kernel_rfl
  rw [hc] at hsz
  obtain ⟨fuel, hf⟩ := h
  obtain ⟨xs, n, _, _, hl, hlen, hff⟩ := DataW.trod_struct Try.underlying24 hf
  have hs : xs.length = 5 := hlen
  obtain ⟨l0, rfl⟩ : ∃ l0 : List Value, cs = l0.toArray := ⟨cs.toList, by simp⟩
  have hl0 : l0.length = 5 := by simpa using hsz
  match l0, hl0 with
  | [c0, c1, c2, c3, c4], _ =>
    have a0 : DataW.trod enc Try.prog w base spare held n 3 (([c0, c1, c2, c3, c4].drop 0).take (Try.prog.cellsOf 3)) = xs[0]? := hff 0 _ rfl
    have a1 : DataW.trod enc Try.prog w base spare held n 3 (([c0, c1, c2, c3, c4].drop 1).take (Try.prog.cellsOf 3)) = xs[1]? := hff 1 _ rfl
    have a2 : DataW.trod enc Try.prog w base spare held n 3 (([c0, c1, c2, c3, c4].drop 2).take (Try.prog.cellsOf 3)) = xs[2]? := hff 2 _ rfl
    have a3 : DataW.trod enc Try.prog w base spare held n 3 (([c0, c1, c2, c3, c4].drop 3).take (Try.prog.cellsOf 3)) = xs[3]? := hff 3 _ rfl
    have a4 : DataW.trod enc Try.prog w base spare held n 22 (([c0, c1, c2, c3, c4].drop 4).take (Try.prog.cellsOf 22)) = xs[4]? := hff 4 _ rfl
    rw [hc3] at a0 a1 a2 a3
    rw [hcs] at a4
    rw [List.getElem?_eq_getElem (by omega)] at a0 a1 a2 a3 a4
    obtain ⟨n0, e0, _, w0⟩ := DataW.trod_int Try.underlying3 a0
    obtain ⟨n1, e1, _, w1⟩ := DataW.trod_int Try.underlying3 a1
    obtain ⟨n2, e2, _, w2⟩ := DataW.trod_int Try.underlying3 a2
    obtain ⟨n3, e3, _, w3⟩ := DataW.trod_int Try.underlying3 a3
    simp at e0 e1 e2 e3
    subst e0 e1 e2 e3
    haveI : Inhabited S88 := ⟨z88⟩
    have form : ∃ a len cap, c4 = .slice a len cap := by
      rcases Go.Deep.open_slice Try.underlying22 a4 with ⟨hx, _⟩ | ⟨ad, len', cap', m, n', D, Pl, hx, _⟩
      · simp at hx; exact ⟨_, _, _, hx⟩
      · simp at hx; exact ⟨_, _, _, hx⟩
    obtain ⟨a, len, cap, rfl⟩ := form
    obtain ⟨l, hll, hlc, hcm, hC, _⟩ := open_rows (a := a) (len := len) (cap := cap) k88 (fun _ => True) Try.underlying22 (by kernel_rfl) (fun fuel cs x => elemComp fuel cs x) ⟨n, a4⟩
    subst hll
    exact ⟨n0, n1, n2, n3, a, cap, l, rfl, hlc, hcm, hC⟩
theorem elemInt {H : Type} {enc : TypeId × Value → H} {w : World} {base : Nat} {spare : Nat → Bool} {held : Bool} (fuel : Nat) (cs : List Value) (x : DataW H × List MemPlace) (h : DataW.trod enc Try.prog w base spare held fuel 3 cs = some x) : ∃ v : Int, (Kd.int .i64).K w v cs ∧ True := by
  obtain ⟨n0, e0, _, w0⟩ := DataW.trod_int Try.underlying3 h
  exact ⟨n0, e0, trivial⟩
set_option maxRecDepth 100000 in
theorem lifted (os : Os) (started : os.Started) (H : Type) (enc : TypeId × Value → H) :
    ReturnsInHanded {} Try.checked os 9 .any (Rows.fnExactOrderOfSpec.pre6 enc Try.prog Try.f9 Rows.fnExactOrderOfRow.domain false) (Rows.fnExactOrderOfSpec.post enc Try.prog Try.f9 false true false false) := by
  refine returnsInHanded_of_change_sized (C := Try.checked) own started (by kernel_rfl) Try.func9
    (ChangeSpec.witness6 (enc := enc) (C := Try.checked) false ⟨#[], #[.agg #[.int .i64 0, .int .i64 0, .int .i64 0, .int .i64 0, .slice none 0 0], .slice none 0 0], []⟩ 8 (by kernel_rfl) (by kernel_rfl) (by kernel_rfl) (by kernel_rfl)) ?_
  intro W base args ds gs before hval0 hW hcnd hsz0 _
  have hsz : (DataW.weightsEach Try.prog (Try.f9.params.toList ++ Rows.fnExactOrderOfSpec.plain.varTypes Try.prog) (ds ++ gs)).all (· ≤ reachBytes) = true := hsz0
  have hval : ∀ (j : Nat) t v, Try.f9.params[j]? = some t → args[j]? = some v → Value.okWide Try.prog W .any base t v := hval0
  have hW' := hW
  obtain ⟨p, q, hA0, hV, rfl, hfz, hnd⟩ := hW
  have hA : DataW.TrodAll enc Try.prog W 0 (fun _ => true) true Try.f9.params.toList args.toList ds p := hA0
  rw [Try.params9] at hA hval hsz
  obtain ⟨v0, vs0, d0, ds0, p0, q0, hargs, rfl, rfl, h0, r0⟩ := trodAll_cons hA
  obtain ⟨v1, vs1, d1, ds1, p1, q1, rfl, rfl, rfl, h1, r1⟩ := trodAll_cons r0
  obtain ⟨rfl, rfl, rfl⟩ := trodAll_nil r1
  obtain rfl : args = #[v0, v1] := by cases args; simp_all
  obtain ⟨rfl, rfl⟩ := trodVars_none hV
  obtain ⟨fp, fw, fh, fr, a0, cap0, l, rfl, hlc, hcm, hC⟩ := open_frame (hval 0 24 v0 rfl rfl) h0
  obtain ⟨a1, len1, cap1, rfl⟩ := okWide_slice Try.underlying45 (hval 1 45 v1 rfl rfl)
  have k0 := h0
  have k1 := h1
  have lt0 : ∀ x ∈ p0, x.block < W.heap.size := by obtain ⟨m, hm⟩ := k0; exact DataW.trod_lt m _ _ _ hm
  have lt1 : ∀ x ∈ p1, x.block < W.heap.size := by obtain ⟨m, hm⟩ := k1; exact DataW.trod_lt m _ _ _ hm
  obtain ⟨cs, hcl, hcc, hccm, hCC, _⟩ := open_rows (Kd.int .i64) (fun _ => True) Try.underlying45 (by kernel_rfl) (fun fuel cs x => elemInt fuel cs x) h1
  subst hcl
  obtain ⟨k, hk⟩ := Pure.FnExactOrderOf fp fw fh fr l (by omega) cs
  clear hA0 hval0 hsz0 hsz
  refine (laws_FnExactOrderOf.calls k fp fw fh fr a0 cap0 l a1 cap1 cs true W hC hlc hCC hcc hk).mono fun e W' ⟨he, bel⟩ => ?_
  subst he
  exact ⟨_, rfl, _, _, _, [], _, [], hW', trodAll_mk1 (shut_bool Try.underlying4 _), (trodAll_cons_mk (Below.trod laidOut (by kernel_rfl) (of_decide_eq_true (by kernel_rfl)) k0 bel lt0) (trodAll_cons_mk (Below.trod laidOut (by kernel_rfl) (of_decide_eq_true (by kernel_rfl)) k1 bel lt1) trodAll_mk0)), rfl, bel.frame _, fun h => by cases h⟩
theorem over : Rows.fnExactOrderOfRow.holds Try.pinned (OpenSpec.ofChange Rows.fnExactOrderOfSpec) :=
  OpenClaim.holds_of_wide 9 Try.f9 rfl rfl rfl rfl rfl rfl rfl ⟨rfl, rfl, rfl, rfl, rfl⟩ rfl rfl rfl rfl rfl (by kernel_rfl) Try.func9 (by kernel_rfl)
    (of_decide_eq_true (by kernel_rfl)) (by unfold Func.isWrapper; first | (rw [if_pos (by decide +kernel)]; kernel_rfl) | (rw [if_neg (by decide +kernel)]; exact ⟨rfl, rfl⟩))
    (fun os started H enc _ => lifted os started H enc)
theorem proved : Rows.FnExactOrderOfSaid := over
#print axioms proved
end Go.Proofs.Ytbhfimbikooccaa.fnExactOrderOf
namespace Go.Proofs.Ytbhfimbikooccaa
/-- The row, under a short name, for the claim. -/
theorem fnExactOrderOf_holds : Rows.FnExactOrderOfSaid := fnExactOrderOf.proved
end Go.Proofs.Ytbhfimbikooccaa
