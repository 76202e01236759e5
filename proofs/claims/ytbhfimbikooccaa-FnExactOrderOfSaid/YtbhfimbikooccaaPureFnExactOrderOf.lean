/- The pure statement of the law FnExactOrderOf, for every input that its guards let in. -/
import Derived.Test.YtbhfimbikooccaaPFnExactOrderOfx12
import Derived.Test.YtbhfimbikooccaaVFnExactOrderOf
-- The printed row names this word without its seat: the same fact under that name.
namespace Go.Proofs.PrintWords
theorem sized_ints {H : Type} {enc : TypeId × Value → H} {P : Program} {W : World} {base : Nat} {spare : Nat → Bool} {held : Bool} {t e : TypeId} {k : IntKind} {a : Option Addr} {len cap : Nat} {d : DataW H} {ps : List MemPlace} {ts : List TypeId} {ds : List (DataW H)} {j : Nat} (hsz : (DataW.weightsEach P ts ds).all (· ≤ reachBytes) = true) (ht : ts[j]? = some t) (hd : ds[j]? = some d) (hu : P.underlying t = some (.slice e)) (he : P.underlying e = some (.int k)) (hc : P.cellsOf e = 1) {B : Nat} (hB : P.bytesOf e = B) (h : DataW.Trod enc P W base spare held t (.slice a len cap) d ps) : len * B ≤ 140737488351232 := Go.Proofs.YtbhfimbikooccaaW.PrintWords.sized_ints hsz ht hd hu he hc hB h
end Go.Proofs.PrintWords
namespace Go.Proofs.Ytbhfimbikooccaa.Pure
open Go.RowKit Go.Proofs.Ytbhfimbikooccaa.PFnExactOrderOf Go.Proofs.YtbhfimbikooccaaW.PrintWords Go.Proofs.YtbhfimbikooccaaW.PrintLast Go.Proofs.YtbhfimbikooccaaW.PrintMore
set_option linter.unusedVariables false
set_option linter.unusedSimpArgs false
set_option maxRecDepth 4000

theorem w64 {x : Int} (h1 : -9223372036854775808 ≤ x) (h2 : x ≤ 9223372036854775807) : wrap64 x = x := by unfold wrap64; omega
theorem wsucc {i : Nat} (h : i ≤ 4611686018427387904) : wrap64 ((i : Int) + 1) = ((i + 1 : Nat) : Int) := by unfold wrap64; omega
theorem rd_nat (l : List Int) (i : Nat) (h : i < l.length) : rd l (i : Int) = l[i] := by simp [rd, List.getD_eq_getElem?_getD, h]
theorem drop_at {α : Type} (l : List α) (i : Nat) (h : i < l.length) : l.drop i = l[i] :: l.drop (i + 1) := List.drop_eq_getElem_cons h
theorem wf64 {x : Int} (h : (Lit.int .i64 x).wf = true) : -9223372036854775808 ≤ x ∧ x ≤ 9223372036854775807 := by
  simp [Lit.wf, IntKind.min, IntKind.max, IntKind.bits, IntKind.signed] at h; omega
theorem wfu8 {x : Int} (h : (Lit.int .u8 x).wf = true) : 0 ≤ x ∧ x ≤ 255 := by
  simp [Lit.wf, IntKind.min, IntKind.max, IntKind.bits, IntKind.signed] at h; omega

theorem between_eq (a lo hi : Int) : spec_l01Between.f a lo hi = some (decide (lo ≤ a ∧ a ≤ hi)) := by
  unfold spec_l01Between.f
  by_cases h : a ≥ lo
  · rw [if_pos h]; congr 1; simp; omega
  · rw [if_neg h]; congr 1; simp; omega

theorem within_eq (a lo hi : Int) : impl_within.f a lo hi = some (decide (lo ≤ a ∧ a ≤ hi)) := by
  unfold impl_within.f
  by_cases h : a ≥ lo
  · rw [if_pos h]; congr 1; simp; omega
  · rw [if_neg h]; congr 1; simp; omega

def compOk (x : S66) : Bool := decide (0 ≤ x.f0 ∧ x.f0 ≤ 255) && (decide (1 ≤ x.f1 ∧ x.f1 ≤ 4) && (decide (1 ≤ x.f2 ∧ x.f2 ≤ 4) && decide (0 ≤ x.f3 ∧ x.f3 ≤ 3)))
theorem compOk_iff {x : S66} : compOk x = true ↔ (0 ≤ x.f0 ∧ x.f0 ≤ 255) ∧ (1 ≤ x.f1 ∧ x.f1 ≤ 4) ∧ (1 ≤ x.f2 ∧ x.f2 ≤ 4) ∧ (0 ≤ x.f3 ∧ x.f3 ≤ 3) := by simp [compOk]
def frameL : List S66 → List S66 → Int → Bool
  | _, [], s => decide (s ≤ 10)
  | pre, x :: xs, s => compOk x && (!(pre.any fun y => y.f0 == x.f0) && frameL (pre ++ [x]) xs (s + x.f1 * x.f2))
def frameB (p w h r : Int) (l : List S66) : Bool := decide (p = 8 ∨ p = 12) && (decide (1 ≤ w ∧ w ≤ 256) && (decide (1 ≤ h ∧ h ≤ 256) && (decide (w * h ≤ 16384) && (decide (0 ≤ r ∧ r ≤ 255) && (decide (1 ≤ (l.length : Int) ∧ (l.length : Int) ≤ 4) && frameL [] l 0)))))
theorem rdC_nat (l : List S66) (i : Nat) (h : i < l.length) : rd_T66 l (i : Int) = l[i] := by simp [rd_T66, List.getD_eq_getElem?_getD, h]
theorem mul4 {a b : Int} (ha : 1 ≤ a ∧ a ≤ 4) (hb : 1 ≤ b ∧ b ≤ 4) : 1 ≤ a * b ∧ a * b ≤ 16 := by
  have h1 : (1 : Int) * 1 ≤ a * b := Int.mul_le_mul ha.1 hb.1 (by omega) (by omega)
  have h2 : a * b ≤ 4 * 4 := Int.mul_le_mul ha.2 hb.2 (by omega) (by omega)
  omega
theorem specFr_l1 (p w h r : Int) (l : List S66) (hl : l.length ≤ 4) (x : S66) (i : Nat) (hi : i ≤ l.length) (s : Int) : ∀ (d k j : Nat), j + d = i → spec_FrameOk.l1 (k + d + 1) s (i : Int) (j : Int) p w h r l x.f0 x.f1 x.f2 x.f3 = if ((l.take i).drop j).any (fun y => y.f0 == x.f0) then some false else spec_FrameOk.l0 k (wrap64 (s + wrap64 (x.f1 * x.f2))) (wrap64 ((i : Int) + 1)) p w h r l := by
  intro d
  induction d with
  | zero =>
    intro k j hj
    rw [spec_FrameOk.l1, if_neg (by omega), List.drop_eq_nil_of_le (by simp; omega)]; rfl
  | succ d ih =>
    intro k j hj
    have hjl : j < (l.take i).length := by simp; omega
    rw [show k + (d + 1) + 1 = (k + d + 1) + 1 by omega, spec_FrameOk.l1, if_pos (by omega), if_pos (by omega), if_pos (by omega), rdC_nat l j (by omega), drop_at (l.take i) j hjl, List.any_cons, List.getElem_take]
    by_cases he : l[j].f0 = x.f0
    · rw [if_pos he, if_pos (by simp [he])]
    · rw [if_neg he, wsucc (by omega), ih k (j + 1) (by omega)]
      have : (l[j].f0 == x.f0) = false := beq_eq_false_iff_ne.mpr he
      rw [this, Bool.false_or]
theorem specFr_l0 (p w h r : Int) (l : List S66) (hl : l.length ≤ 4) : ∀ (d k i : Nat) (s : Int), i + d = l.length → 10 * (d + 1) ≤ k → 0 ≤ s → s ≤ 16 * (i : Int) → spec_FrameOk.l0 k s (i : Int) p w h r l = some (frameL (l.take i) (l.drop i) s) := by
  intro d
  induction d with
  | zero =>
    intro k i s hi hk h0 hs
    obtain ⟨k, rfl⟩ : ∃ m, k = m + 1 := ⟨k - 1, by omega⟩
    rw [spec_FrameOk.l0, if_neg (by omega), List.drop_eq_nil_of_le (by omega), frameL]
  | succ d ih =>
    intro k i s hi hk h0 hs
    obtain ⟨k, rfl⟩ : ∃ m, k = m + 1 := ⟨k - 1, by omega⟩
    have hil : i < l.length := by omega
    have hstep : spec_FrameOk.l0 (k + 1) s (i : Int) p w h r l = spec_FrameOk.j2 k s (i : Int) (!compOk l[i]) p w h r l l[i].f0 l[i].f1 l[i].f2 l[i].f3 := by
      rw [spec_FrameOk.l0, if_pos (by omega), if_pos (by omega), rdC_nat l i hil, between_eq, between_eq, between_eq, between_eq]
      simp only [Option.bind_some, compOk]
      generalize decide (0 ≤ l[i].f0 ∧ l[i].f0 ≤ 255) = b1
      generalize decide (1 ≤ l[i].f1 ∧ l[i].f1 ≤ 4) = b2
      generalize decide (1 ≤ l[i].f2 ∧ l[i].f2 ≤ 4) = b3
      generalize decide (0 ≤ l[i].f3 ∧ l[i].f3 ≤ 3) = b4
      cases b1 <;> cases b2 <;> cases b3 <;> rfl 
    rw [hstep, drop_at l i hil, frameL]
    obtain ⟨k, rfl⟩ : ∃ m, k = m + 1 := ⟨k - 1, by omega⟩
    by_cases hc : compOk l[i] = true
    · obtain ⟨_, g1, g2, _⟩ := compOk_iff.1 hc
      have hm := mul4 g1 g2
      rw [hc, spec_FrameOk.j2, if_neg (by decide), Bool.true_and]
      obtain ⟨k, rfl⟩ : ∃ m, k = m + i + 1 := ⟨k - i - 1, by omega⟩
      have e := specFr_l1 p w h r l hl l[i] i (by omega) s i k 0 (by omega)
      rw [List.drop_zero] at e
      refine e.trans ?_
      rw [w64 (x := l[i].f1 * l[i].f2) (by omega) (by omega), w64 (by omega) (by omega), wsucc (by omega)]
      by_cases ha : (l.take i).any (fun y => y.f0 == l[i].f0) = true
      · rw [if_pos ha, ha]; rfl
      · have ha' : (l.take i).any (fun y => y.f0 == l[i].f0) = false := by simpa using ha
        rw [if_neg ha, ha', ih k (i + 1) _ (by omega) (by omega) (by omega) (by omega), List.take_succ_eq_append_getElem hil]; rfl
    · have hc : compOk l[i] = false := by simpa using hc
      rw [hc, spec_FrameOk.j2, if_pos (by rfl), Bool.false_and]
theorem implFr_l0 (p w h r : Int) (l : List S66) (hl : l.length ≤ 4) : ∀ (d k i : Nat) (s : Int), i + d = l.length → 10 * (d + 1) ≤ k → 0 ≤ s → s ≤ 16 * (i : Int) → impl_FrameOk.l0 k s l (l.length : Int) (i : Int) p w h r l = some (frameL (l.take i) (l.drop i) s) := by
  intro d
  induction d with
  | zero =>
    intro k i s hi hk h0 hs
    obtain ⟨k, rfl⟩ : ∃ m, k = m + 1 := ⟨k - 1, by omega⟩
    rw [impl_FrameOk.l0, if_neg (by omega), List.drop_eq_nil_of_le (by omega), frameL]
  | succ d ih =>
    intro k i s hi hk h0 hs
    obtain ⟨k, rfl⟩ : ∃ m, k = m + 1 := ⟨k - 1, by omega⟩
    have hil : i < l.length := by omega
    have hstep : impl_FrameOk.l0 (k + 1) s l (l.length : Int) (i : Int) p w h r l = impl_FrameOk.j2 k s (i : Int) l (l.length : Int) (i : Int) (!compOk l[i]) p w h r l l[i].f0 l[i].f1 l[i].f2 l[i].f3 := by
      rw [impl_FrameOk.l0, if_pos (by omega), if_pos (by omega), if_pos (by omega), rdC_nat l i hil, within_eq, within_eq, within_eq, within_eq]
      simp only [Option.bind_some, compOk]
      generalize decide (0 ≤ l[i].f0 ∧ l[i].f0 ≤ 255) = b1
      generalize decide (1 ≤ l[i].f1 ∧ l[i].f1 ≤ 4) = b2
      generalize decide (1 ≤ l[i].f2 ∧ l[i].f2 ≤ 4) = b3
      generalize decide (0 ≤ l[i].f3 ∧ l[i].f3 ≤ 3) = b4
      cases b1 <;> cases b2 <;> cases b3 <;> rfl
    rw [hstep, drop_at l i hil, frameL]
    obtain ⟨k, rfl⟩ : ∃ m, k = m + 1 := ⟨k - 1, by omega⟩
    by_cases hc : compOk l[i] = true
    · obtain ⟨_, g1, g2, _⟩ := compOk_iff.1 hc
      have hm := mul4 g1 g2
      rw [hc, impl_FrameOk.j2, if_neg (by decide), if_pos (by omega), if_pos (by omega), slices_Has54.f, Option.bind_some, Bool.true_and, Int.toNat_natCast, w64 (x := l[i].f1 * l[i].f2) (by omega) (by omega), w64 (by omega) (by omega), wsucc (by omega)]
      by_cases ha : (l.take i).any (fun y => y.f0 == l[i].f0) = true
      · rw [if_pos ha, ha]; rfl
      · have ha' : (l.take i).any (fun y => y.f0 == l[i].f0) = false := by simpa using ha
        rw [if_neg ha, ha', ih k (i + 1) _ (by omega) (by omega) (by omega) (by omega), List.take_succ_eq_append_getElem hil]; rfl
    · have hc : compOk l[i] = false := by simpa using hc
      rw [hc, impl_FrameOk.j2, if_pos (by rfl), Bool.false_and]
theorem mul256 {a b : Int} (ha : 1 ≤ a ∧ a ≤ 256) (hb : 1 ≤ b ∧ b ≤ 256) : 1 ≤ a * b ∧ a * b ≤ 65536 := by
  have h1 : (1 : Int) * 1 ≤ a * b := Int.mul_le_mul ha.1 hb.1 (by omega) (by omega)
  have h2 : a * b ≤ 256 * 256 := Int.mul_le_mul ha.2 hb.2 (by omega) (by omega)
  omega
theorem specFrame_eq (p w h r : Int) (l : List S66) (k : Nat) (hk : 100 ≤ k) : spec_FrameOk.f k p w h r l = some (frameB p w h r l) := by
  obtain ⟨k, rfl⟩ : ∃ m, k = m + 1 := ⟨k - 1, by omega⟩
  have jt : ∀ p : Int, spec_FrameOk.j0 (k + 1) true p w h r l = some false := by intro p; rw [spec_FrameOk.j0, if_pos rfl]
  have jf : l.length ≤ 4 → ∀ p : Int, spec_FrameOk.j0 (k + 1) false p w h r l = some (frameL [] l 0) := by
    intro hl p
    rw [spec_FrameOk.j0, if_neg (by decide)]
    exact specFr_l0 p w h r l hl l.length k 0 0 (by omega) (by omega) (by omega) (by omega)
  unfold spec_FrameOk.f frameB
  simp only [between_eq, Option.bind_some]
  by_cases c1 : 1 ≤ w ∧ w ≤ 256
  · by_cases c2 : 1 ≤ h ∧ h ≤ 256
    · have hm := mul256 c1 c2
      rw [w64 (x := w * h) (by omega) (by omega)]
      by_cases c3 : w * h > 16384
      · have c3' : ¬ w * h ≤ 16384 := by omega
        by_cases q8 : p = 8 <;> by_cases q12 : p = 12 <;> simp [c1, c2, c3, c3', jt, q8, q12]
      · have c3' : w * h ≤ 16384 := by omega
        by_cases c4 : 0 ≤ r ∧ r ≤ 255
        · by_cases c5 : 1 ≤ (l.length : Int) ∧ (l.length : Int) ≤ 4
          · have hj := jf (by omega)
            rw [decide_eq_true c1, decide_eq_true c2, decide_eq_true c3', decide_eq_true c4, decide_eq_true c5, if_neg c3]
            by_cases q8 : p = 8 <;> by_cases q12 : p = 12 <;> simp [jt, hj, q8, q12]
          · rw [decide_eq_true c1, decide_eq_true c2, decide_eq_true c3', decide_eq_true c4, decide_eq_false c5, if_neg c3]
            by_cases q8 : p = 8 <;> by_cases q12 : p = 12 <;> simp [jt, q8, q12]
        · rw [decide_eq_true c1, decide_eq_true c2, decide_eq_true c3', decide_eq_false c4, if_neg c3]
          by_cases q8 : p = 8 <;> by_cases q12 : p = 12 <;> simp [jt, q8, q12]
    · rw [decide_eq_true c1, decide_eq_false c2]
      by_cases q8 : p = 8 <;> by_cases q12 : p = 12 <;> simp [jt, q8, q12]
  · rw [decide_eq_false c1]
    by_cases q8 : p = 8 <;> by_cases q12 : p = 12 <;> simp [jt, q8, q12]
theorem implFrame_eq (p w h r : Int) (l : List S66) (k : Nat) (hk : 100 ≤ k) : impl_FrameOk.f k p w h r l = some (frameB p w h r l) := by
  obtain ⟨k, rfl⟩ : ∃ m, k = m + 1 := ⟨k - 1, by omega⟩
  have jt : ∀ p : Int, impl_FrameOk.j0 (k + 1) true p w h r l = some false := by intro p; rw [impl_FrameOk.j0, if_pos rfl]
  have jf : l.length ≤ 4 → ∀ p : Int, impl_FrameOk.j0 (k + 1) false p w h r l = some (frameL [] l 0) := by
    intro hl p
    rw [impl_FrameOk.j0, if_neg (by decide)]
    exact implFr_l0 p w h r l hl l.length k 0 0 (by omega) (by omega) (by omega) (by omega)
  unfold impl_FrameOk.f frameB
  simp only [within_eq, Option.bind_some]
  by_cases c1 : 1 ≤ w ∧ w ≤ 256
  · by_cases c2 : 1 ≤ h ∧ h ≤ 256
    · have hm := mul256 c1 c2
      rw [w64 (x := w * h) (by omega) (by omega)]
      by_cases c3 : w * h > 16384
      · have c3' : ¬ w * h ≤ 16384 := by omega
        by_cases q8 : p = 8 <;> by_cases q12 : p = 12 <;> simp [c1, c2, c3, c3', jt, q8, q12]
      · have c3' : w * h ≤ 16384 := by omega
        by_cases c4 : 0 ≤ r ∧ r ≤ 255
        · by_cases c5 : 1 ≤ (l.length : Int) ∧ (l.length : Int) ≤ 4
          · have hj := jf (by omega)
            rw [decide_eq_true c1, decide_eq_true c2, decide_eq_true c3', decide_eq_true c4, decide_eq_true c5, if_neg c3]
            by_cases q8 : p = 8 <;> by_cases q12 : p = 12 <;> simp [jt, hj, q8, q12]
          · rw [decide_eq_true c1, decide_eq_true c2, decide_eq_true c3', decide_eq_true c4, decide_eq_false c5, if_neg c3]
            by_cases q8 : p = 8 <;> by_cases q12 : p = 12 <;> simp [jt, q8, q12]
        · rw [decide_eq_true c1, decide_eq_true c2, decide_eq_true c3', decide_eq_false c4, if_neg c3]
          by_cases q8 : p = 8 <;> by_cases q12 : p = 12 <;> simp [jt, q8, q12]
    · rw [decide_eq_true c1, decide_eq_false c2]
      by_cases q8 : p = 8 <;> by_cases q12 : p = 12 <;> simp [jt, q8, q12]
  · rw [decide_eq_false c1]
    by_cases q8 : p = 8 <;> by_cases q12 : p = 12 <;> simp [jt, q8, q12]
theorem frameB_iff {p w h r : Int} {l : List S66} : frameB p w h r l = true ↔ (p = 8 ∨ p = 12) ∧ (1 ≤ w ∧ w ≤ 256) ∧ (1 ≤ h ∧ h ≤ 256) ∧ w * h ≤ 16384 ∧ (0 ≤ r ∧ r ≤ 255) ∧ (1 ≤ (l.length : Int) ∧ (l.length : Int) ≤ 4) ∧ frameL [] l 0 = true := by
  simp [frameB]

theorem tdw {x y : Int} (h0 : 0 ≤ x) (h1 : x ≤ 4611686018427387904) (hy : 0 < y) : wrap64 (Int.tdiv x y) = x / y := by
  rw [Int.tdiv_eq_ediv_of_nonneg h0]
  have a := Int.ediv_nonneg h0 (Int.le_of_lt hy)
  have b := Int.ediv_le_self y h0
  exact w64 (by omega) (by omega)
theorem div_bd {x y : Int} (h0 : 0 ≤ x) (hy : 0 < y) : 0 ≤ x / y ∧ x / y ≤ x := ⟨Int.ediv_nonneg h0 (Int.le_of_lt hy), Int.ediv_le_self y h0⟩

theorem frameL_ok : ∀ (l pre : List S66) (s : Int), frameL pre l s = true → ∀ x ∈ l, compOk x = true
  | [], _, _, _ => by simp
  | y :: ys, pre, s, h => by
    unfold frameL at h
    rw [Bool.and_eq_true, Bool.and_eq_true] at h
    intro x hx
    rcases List.mem_cons.1 hx with rfl | hx
    · exact h.1
    · exact frameL_ok ys _ _ h.2.2 x hx
theorem frameB_ok {p w h r : Int} {l : List S66} (hb : frameB p w h r l = true) : ∀ x ∈ l, compOk x = true := by
  unfold frameB at hb
  simp only [Bool.and_eq_true] at hb
  exact frameL_ok l [] 0 hb.2.2.2.2.2.2
theorem frameB_parts {p w h r : Int} {l : List S66} (hb : frameB p w h r l = true) : (1 ≤ w ∧ w ≤ 256) ∧ (1 ≤ h ∧ h ≤ 256) ∧ (1 ≤ (l.length : Int) ∧ (l.length : Int) ≤ 4) ∧ w * h ≤ 16384 := by
  unfold frameB at hb
  simp only [Bool.and_eq_true, decide_eq_true_eq] at hb
  exact ⟨hb.2.1, hb.2.2.1, hb.2.2.2.2.2.1, hb.2.2.2.1⟩
def mostG : Int → Int → List S66 → Int × Int
  | h, v, [] => (h, v)
  | h, v, x :: xs => mostG (mx h x.f1) (mx v x.f2) xs
theorem mostG_in : ∀ (l : List S66) (h v : Int), (∀ x ∈ l, compOk x = true) → (1 ≤ h ∧ h ≤ 4) → (1 ≤ v ∧ v ≤ 4) → (1 ≤ (mostG h v l).1 ∧ (mostG h v l).1 ≤ 4) ∧ (1 ≤ (mostG h v l).2 ∧ (mostG h v l).2 ≤ 4)
  | [], h, v, _, hh, hv => ⟨hh, hv⟩
  | x :: xs, h, v, hx, hh, hv => by
    obtain ⟨_, g1, g2, _⟩ := compOk_iff.1 (hx x (by simp))
    refine mostG_in xs _ _ (fun y hy => hx y (by simp [hy])) ?_ ?_
    · unfold mx; split <;> omega
    · unfold mx; split <;> omega
theorem specMost_loop (p w hh r : Int) (l : List S66) (hl : l.length ≤ 1000) : ∀ (d k i : Nat) (h v : Int), i + d = l.length → d < k → spec_l04Most.l0 k h v (i : Int) p w hh r l = some (mostG h v (l.drop i)) := by
  intro d
  induction d with
  | zero =>
    intro k i h v hi hk
    obtain ⟨k, rfl⟩ : ∃ m, k = m + 1 := ⟨k - 1, by omega⟩
    rw [spec_l04Most.l0, if_neg (by omega), List.drop_eq_nil_of_le (by omega)]; rfl
  | succ d ih =>
    intro k i h v hi hk
    obtain ⟨k, rfl⟩ : ∃ m, k = m + 1 := ⟨k - 1, by omega⟩
    rw [spec_l04Most.l0, if_pos (by omega), if_pos (by omega), rdC_nat l i (by omega), wsucc (by omega), drop_at l i (by omega), mostG, ih k (i + 1) _ _ (by omega) (by omega), ih k (i + 1) _ _ (by omega) (by omega), ih k (i + 1) _ _ (by omega) (by omega), ih k (i + 1) _ _ (by omega) (by omega)]
    unfold mx
    by_cases c1 : l[i].f1 > h
    · by_cases c2 : l[i].f2 > v
      · rw [if_pos c1, if_pos c2, if_pos (by omega), if_pos (by omega)]
      · rw [if_pos c1, if_neg c2, if_pos (by omega), if_neg (by omega)]
    · by_cases c2 : l[i].f2 > v
      · rw [if_neg c1, if_pos c2, if_neg (by omega), if_pos (by omega)]
      · rw [if_neg c1, if_neg c2, if_neg (by omega), if_neg (by omega)]
theorem specMost_eq (p w hh r : Int) (l : List S66) (hl : l.length ≤ 1000) (k : Nat) (hk : l.length < k) : spec_l04Most.f k p w hh r l = some (mostG 1 1 l) := by
  unfold spec_l04Most.f
  exact specMost_loop p w hh r l hl l.length k 0 1 1 (by omega) hk
theorem implMost_loop (l : List S66) (hl : l.length ≤ 1000) : ∀ (d k i : Nat) (h v : Int), i + d = l.length → d < k → impl_Frame_most.l0 k h v l (l.length : Int) (i : Int) = some (mostG h v (l.drop i)) := by
  intro d
  induction d with
  | zero =>
    intro k i h v hi hk
    obtain ⟨k, rfl⟩ : ∃ m, k = m + 1 := ⟨k - 1, by omega⟩
    rw [impl_Frame_most.l0, if_neg (by omega), List.drop_eq_nil_of_le (by omega)]; rfl
  | succ d ih =>
    intro k i h v hi hk
    obtain ⟨k, rfl⟩ : ∃ m, k = m + 1 := ⟨k - 1, by omega⟩
    rw [impl_Frame_most.l0, if_pos (by omega), if_pos (by omega), if_pos (by omega), rdC_nat l i (by omega), wsucc (by omega), drop_at l i (by omega), mostG, ih k (i + 1) _ _ (by omega) (by omega)]
theorem implMost_eq (p w hh r : Int) (l : List S66) (hl : l.length ≤ 1000) (k : Nat) (hk : l.length < k) : impl_Frame_most.f k p w hh r l = some (mostG 1 1 l) := by
  unfold impl_Frame_most.f
  exact implMost_loop l hl l.length k 0 1 1 (by omega) hk
def upV (a b : Int) : Int := (a + b - 1) / b
theorem specUp_eq (a b : Int) (ha : 0 ≤ a ∧ a ≤ 1000000) (hb : 1 ≤ b ∧ b ≤ 1000000) : spec_l04Up.f a b = some (upV a b) := by
  unfold spec_l04Up.f upV
  rw [if_neg (by omega), w64 (x := a + b) (by omega) (by omega), w64 (x := a + b - 1) (by omega) (by omega), tdw (by omega) (by omega) (by omega)]
theorem implUp_eq (a b : Int) (ha : 0 ≤ a ∧ a ≤ 1000000) (hb : 1 ≤ b ∧ b ≤ 1000000) : impl_up.f a b = some (upV a b) := by
  unfold impl_up.f upV
  rw [if_neg (by omega), w64 (x := a + b) (by omega) (by omega), w64 (x := a + b - 1) (by omega) (by omega), tdw (by omega) (by omega) (by omega)]
theorem upV_in (a b : Int) (ha : 1 ≤ a ∧ a ≤ 1000000) (hb : 1 ≤ b ∧ b ≤ 1000000) : 1 ≤ upV a b ∧ upV a b ≤ a := by
  unfold upV
  constructor
  · exact (Int.le_ediv_iff_mul_le (by omega)).2 (by omega)
  · have : a + b - 1 < (a + 1) * b := by
      have := Int.mul_le_mul_of_nonneg_left hb.1 (show (0 : Int) ≤ a by omega)
      rw [Int.add_mul]; omega
    have := Int.ediv_lt_of_lt_mul (by omega) this
    omega
theorem rdC_ok {l : List S66} (hx : ∀ x ∈ l, compOk x = true) (c : Int) (h0 : 0 ≤ c) (h1 : c < (l.length : Int)) : compOk (rd_T66 l c) = true := by
  obtain ⟨n, rfl⟩ := Int.eq_ofNat_of_zero_le h0
  rw [rdC_nat l n (by omega)]
  exact hx _ (List.getElem_mem _)
def unitsV (w h : Int) (l : List S66) : Int × Int := (upV w (8 * (mostG 1 1 l).1), upV h (8 * (mostG 1 1 l).2))
def sizeV (w h : Int) (l : List S66) (c : Int) : Int × Int := (upV (w * (rd_T66 l c).f1) (mostG 1 1 l).1, upV (h * (rd_T66 l c).f2) (mostG 1 1 l).2)
def blocksV (w h : Int) (l : List S66) (c : Int) : Int × Int := ((unitsV w h l).1 * (rd_T66 l c).f1, (unitsV w h l).2 * (rd_T66 l c).f2)
theorem mul1024 {a b : Int} (ha : 1 ≤ a ∧ a ≤ 256) (hb : 1 ≤ b ∧ b ≤ 4) : 1 ≤ a * b ∧ a * b ≤ 1024 := by
  have h1 : (1 : Int) * 1 ≤ a * b := Int.mul_le_mul ha.1 hb.1 (by omega) (by omega)
  have h2 : a * b ≤ 256 * 4 := Int.mul_le_mul ha.2 hb.2 (by omega) (by omega)
  omega
theorem unitsV_in {p w h r : Int} {l : List S66} (hb : frameB p w h r l = true) : (1 ≤ (unitsV w h l).1 ∧ (unitsV w h l).1 ≤ 256) ∧ (1 ≤ (unitsV w h l).2 ∧ (unitsV w h l).2 ≤ 256) := by
  obtain ⟨c1, c2, c3, _⟩ := frameB_parts hb
  obtain ⟨m1, m2⟩ := mostG_in l 1 1 (frameB_ok hb) (by omega) (by omega)
  have u1 := upV_in w (8 * (mostG 1 1 l).1) (by omega) (by omega)
  have u2 := upV_in h (8 * (mostG 1 1 l).2) (by omega) (by omega)
  unfold unitsV
  simp only
  omega
theorem sizeV_in {p w h r : Int} {l : List S66} (hb : frameB p w h r l = true) (c : Int) (h0 : 0 ≤ c) (h1 : c < (l.length : Int)) : (1 ≤ (sizeV w h l c).1 ∧ (sizeV w h l c).1 ≤ 1024) ∧ (1 ≤ (sizeV w h l c).2 ∧ (sizeV w h l c).2 ≤ 1024) := by
  obtain ⟨c1, c2, c3, _⟩ := frameB_parts hb
  obtain ⟨m1, m2⟩ := mostG_in l 1 1 (frameB_ok hb) (by omega) (by omega)
  obtain ⟨_, g1, g2, _⟩ := compOk_iff.1 (rdC_ok (frameB_ok hb) c h0 h1)
  have k1 := mul1024 c1 g1
  have k2 := mul1024 c2 g2
  have u1 := upV_in (w * (rd_T66 l c).f1) (mostG 1 1 l).1 (by omega) (by omega)
  have u2 := upV_in (h * (rd_T66 l c).f2) (mostG 1 1 l).2 (by omega) (by omega)
  unfold sizeV
  simp only
  omega
theorem specUnits_eq {p w h r : Int} {l : List S66} (hb : frameB p w h r l = true) (k : Nat) (hk : 100 ≤ k) : spec_l04Units.f k p w h r l = some (unitsV w h l) := by
  obtain ⟨c1, c2, c3, _⟩ := frameB_parts hb
  obtain ⟨m1, m2⟩ := mostG_in l 1 1 (frameB_ok hb) (by omega) (by omega)
  unfold spec_l04Units.f
  rw [specMost_eq p w h r l (by omega) k (by omega), Option.bind_some, w64 (x := 8 * (mostG 1 1 l).1) (by omega) (by omega), w64 (x := 8 * (mostG 1 1 l).2) (by omega) (by omega), specUp_eq w _ (by omega) (by omega), Option.bind_some, specUp_eq h _ (by omega) (by omega)]; rfl
theorem implUnits_eq {p w h r : Int} {l : List S66} (hb : frameB p w h r l = true) (k : Nat) (hk : 100 ≤ k) : impl_Frame_units.f k p w h r l = some (unitsV w h l) := by
  obtain ⟨c1, c2, c3, _⟩ := frameB_parts hb
  obtain ⟨m1, m2⟩ := mostG_in l 1 1 (frameB_ok hb) (by omega) (by omega)
  unfold impl_Frame_units.f
  rw [implMost_eq p w h r l (by omega) k (by omega), Option.bind_some, w64 (x := 8 * (mostG 1 1 l).1) (by omega) (by omega), w64 (x := 8 * (mostG 1 1 l).2) (by omega) (by omega), implUp_eq w _ (by omega) (by omega), Option.bind_some, implUp_eq h _ (by omega) (by omega)]; rfl
theorem specSize_eq {p w h r : Int} {l : List S66} (hb : frameB p w h r l = true) (c : Int) (h0 : 0 ≤ c) (h1 : c < (l.length : Int)) (k : Nat) (hk : 100 ≤ k) : spec_l04Size.f k p w h r l c = some (sizeV w h l c) := by
  obtain ⟨c1, c2, c3, _⟩ := frameB_parts hb
  obtain ⟨m1, m2⟩ := mostG_in l 1 1 (frameB_ok hb) (by omega) (by omega)
  obtain ⟨_, g1, g2, _⟩ := compOk_iff.1 (rdC_ok (frameB_ok hb) c h0 h1)
  have k1 := mul1024 c1 g1
  have k2 := mul1024 c2 g2
  unfold spec_l04Size.f
  rw [specMost_eq p w h r l (by omega) k (by omega), Option.bind_some, if_pos h0, if_pos h1, w64 (x := w * (rd_T66 l c).f1) (by omega) (by omega), w64 (x := h * (rd_T66 l c).f2) (by omega) (by omega), specUp_eq _ _ (by omega) (by omega), Option.bind_some, specUp_eq _ _ (by omega) (by omega)]; rfl
theorem implSize_eq {p w h r : Int} {l : List S66} (hb : frameB p w h r l = true) (c : Int) (h0 : 0 ≤ c) (h1 : c < (l.length : Int)) (k : Nat) (hk : 100 ≤ k) : impl_Frame_size.f k p w h r l c = some (sizeV w h l c) := by
  obtain ⟨c1, c2, c3, _⟩ := frameB_parts hb
  obtain ⟨m1, m2⟩ := mostG_in l 1 1 (frameB_ok hb) (by omega) (by omega)
  obtain ⟨_, g1, g2, _⟩ := compOk_iff.1 (rdC_ok (frameB_ok hb) c h0 h1)
  have k1 := mul1024 c1 g1
  have k2 := mul1024 c2 g2
  unfold impl_Frame_size.f
  rw [implMost_eq p w h r l (by omega) k (by omega), Option.bind_some, if_pos h0, if_pos h1, w64 (x := w * (rd_T66 l c).f1) (by omega) (by omega), w64 (x := h * (rd_T66 l c).f2) (by omega) (by omega), implUp_eq _ _ (by omega) (by omega), Option.bind_some, implUp_eq _ _ (by omega) (by omega)]; rfl
def compIn (p w h r : Int) (l : List S66) (c : Int) : Bool := frameB p w h r l && decide (0 ≤ c ∧ c ≤ (l.length : Int) - 1)
theorem implHas_eq (p w h r : Int) (l : List S66) (hl : l.length ≤ 1048576) (c : Int) (k : Nat) (hk : 100 ≤ k) : impl_Frame_has.f k p w h r l c = some (compIn p w h r l c) := by
  unfold impl_Frame_has.f compIn
  rw [implFrame_eq p w h r l k hk, Option.bind_some, w64 (by omega) (by omega), within_eq]
  by_cases hb : frameB p w h r l = true
  · rw [if_pos hb, hb, Bool.true_and]; rfl
  · have hb' : frameB p w h r l = false := by simpa using hb
    rw [if_neg hb, hb', Bool.false_and]
theorem compIn_iff {p w h r : Int} {l : List S66} {c : Int} : compIn p w h r l c = true ↔ frameB p w h r l = true ∧ 0 ≤ c ∧ c < (l.length : Int) := by
  unfold compIn
  rw [Bool.and_eq_true, decide_eq_true_eq]
  constructor
  · rintro ⟨a, b, c⟩; exact ⟨a, b, by omega⟩
  · rintro ⟨a, b, c⟩; exact ⟨a, b, by omega⟩
def To {α : Type} (f g : Nat → α) : Prop := ∃ K : Nat, ∀ k : Nat, f (k + K) = g k
theorem To.refl {α : Type} (f : Nat → α) : To f f := ⟨0, fun _ => rfl⟩
theorem To.trans {α : Type} {f g h : Nat → α} (a : To f g) (b : To g h) : To f h := by
  obtain ⟨K, a⟩ := a
  obtain ⟨L, b⟩ := b
  exact ⟨L + K, fun k => by rw [← Nat.add_assoc, a, b]⟩
theorem To.step {α : Type} {f g : Nat → α} (a : ∀ k : Nat, f (k + 1) = g k) : To f g := ⟨1, a⟩
theorem To.eq {α : Type} {f g : Nat → α} (a : ∀ k : Nat, f k = g k) : To f g := ⟨0, a⟩
theorem To.ends {α : Type} {f : Nat → α} {r : α} (a : To f fun _ => r) : ∃ K : Nat, ∀ k : Nat, K ≤ k → f k = r := by
  obtain ⟨K, a⟩ := a
  exact ⟨K, fun k hk => by obtain ⟨j, rfl⟩ : ∃ j, k = j + K := ⟨k - K, by omega⟩; exact a j⟩

def rowP (c : Int) (x : S66) (r k : Nat) (y : Nat) (z d : Nat) : List S60 := (List.range' z d).map fun z : Nat => ⟨c, (r : Int) * x.f2 + (y : Int), (k : Int) * x.f1 + (z : Int)⟩
def compP (c : Int) (x : S66) (r k : Nat) (y d : Nat) : List S60 := (List.range' y d).flatMap fun y => rowP c x r k y 0 x.f1.toNat
def unitP (l : List S66) (r k : Nat) (cs : List Int) : List S60 := cs.flatMap fun c => compP c (rd_T66 l c) r k 0 (rd_T66 l c).f2.toNat
theorem rowP_len (c : Int) (x : S66) (r k y z d : Nat) : (rowP c x r k y z d).length = d := by simp [rowP]
theorem compP_len (c : Int) (x : S66) (r k y d : Nat) : (compP c x r k y d).length = d * x.f1.toNat := by
  induction d generalizing y with
  | zero => simp [compP]
  | succ d ih =>
    have : compP c x r k y (d + 1) = rowP c x r k y 0 x.f1.toNat ++ compP c x r k (y + 1) d := by simp [compP, List.range'_succ]
    rw [this, List.length_append, rowP_len, ih, Nat.succ_mul, Nat.add_comm]
theorem unitP_len (l : List S66) (hx : ∀ x ∈ l, compOk x = true) (r k : Nat) : ∀ cs : List Int, (∀ c ∈ cs, 0 ≤ c ∧ c < (l.length : Int)) → (unitP l r k cs).length ≤ 16 * cs.length
  | [], _ => by simp [unitP]
  | c :: cs, h => by
    have ih := unitP_len l hx r k cs (fun c hc => h c (by simp [hc]))
    obtain ⟨h0, h1⟩ := h c (by simp)
    obtain ⟨_, g1, g2, _⟩ := compOk_iff.1 (rdC_ok hx c h0 h1)
    have e : unitP l r k (c :: cs) = compP c (rd_T66 l c) r k 0 (rd_T66 l c).f2.toNat ++ unitP l r k cs := by simp [unitP]
    have hm : (rd_T66 l c).f2.toNat * (rd_T66 l c).f1.toNat ≤ 4 * 4 := Nat.mul_le_mul (by omega) (by omega)
    rw [e, List.length_append, compP_len, List.length_cons]
    omega
section
variable (p w h r0 : Int) (l : List S66) (hx : ∀ x ∈ l, compOk x = true) (cs : List Int) (hcs : ∀ c ∈ cs, 0 ≤ c ∧ c < (l.length : Int)) (hcl : cs.length ≤ 1000)
theorem mulw {a b : Int} (ha : 0 ≤ a ∧ a ≤ 100000) (hb : 1 ≤ b ∧ b ≤ 4) : 0 ≤ a * b ∧ a * b ≤ 400000 := by
  have h1 : 0 ≤ a * b := Int.mul_nonneg ha.1 (by omega)
  have h2 : a * b ≤ 100000 * 4 := Int.mul_le_mul ha.2 hb.2 (by omega) (by omega)
  omega
include hx hcs in
theorem spec_l6 (x5 : List (List S60)) (W H : Int) (r k i y : Nat) (hr : r ≤ 100000) (hk : k ≤ 100000) (hi : i < cs.length) (hy : y ≤ 100) : ∀ (d z : Nat) (u : List S60), z + d = (rd_T66 l (cs[i])).f1.toNat → u.length + d ≤ 1000000 →
    To (fun n => spec_l04Order.l6 n cs x5 W H (r : Int) (k : Int) u (i : Int) (y : Int) (z : Int) p w h r0 l (rd_T66 l (cs[i])).f0 (rd_T66 l (cs[i])).f1 (rd_T66 l (cs[i])).f2 (rd_T66 l (cs[i])).f3)
       (fun n => spec_l04Order.l5 n cs x5 W H (r : Int) (k : Int) (u ++ rowP (cs[i]) (rd_T66 l (cs[i])) r k y z d) (i : Int) ((y + 1 : Nat) : Int) p w h r0 l (rd_T66 l (cs[i])).f0 (rd_T66 l (cs[i])).f1 (rd_T66 l (cs[i])).f2 (rd_T66 l (cs[i])).f3) := by
  obtain ⟨h0, h1⟩ := hcs (cs[i]) (List.getElem_mem hi)
  obtain ⟨_, g1, g2, _⟩ := compOk_iff.1 (rdC_ok hx _ h0 h1)
  have m1 := mulw (a := (r : Int)) (by omega) g2
  have m2 := mulw (a := (k : Int)) (by omega) g1
  intro d
  induction d with
  | zero =>
    intro z u hz hu
    refine To.step fun n => ?_
    show spec_l04Order.l6 (n + 1) cs x5 W H r k u i y z p w h r0 l _ _ _ _ = _
    rw [spec_l04Order.l6, if_neg (by omega), wsucc (by omega)]
    simp [rowP]
  | succ d ih =>
    intro z u hz hu
    refine To.trans (To.step fun n => ?_) (?_ : To (fun n => spec_l04Order.l6 n cs x5 W H (r : Int) (k : Int) (u ++ [⟨cs[i], (r : Int) * (rd_T66 l (cs[i])).f2 + (y : Int), (k : Int) * (rd_T66 l (cs[i])).f1 + (z : Int)⟩]) (i : Int) (y : Int) ((z + 1 : Nat) : Int) p w h r0 l (rd_T66 l (cs[i])).f0 (rd_T66 l (cs[i])).f1 (rd_T66 l (cs[i])).f2 (rd_T66 l (cs[i])).f3) _)
    · show spec_l04Order.l6 (n + 1) cs x5 W H r k u i y z p w h r0 l _ _ _ _ = _
      rw [spec_l04Order.l6, if_pos (by omega), if_pos (by omega), if_pos (by omega), if_pos (by omega), rd_nat cs i hi, wsucc (by omega), w64 (x := (r : Int) * (rd_T66 l (cs[i])).f2) (by omega) (by omega), w64 (x := (k : Int) * (rd_T66 l (cs[i])).f1) (by omega) (by omega), w64 (by omega) (by omega), w64 (by omega) (by omega)]
    · have := ih (z + 1) (u ++ [⟨cs[i], (r : Int) * (rd_T66 l (cs[i])).f2 + (y : Int), (k : Int) * (rd_T66 l (cs[i])).f1 + (z : Int)⟩]) (by omega) (by simp; omega)
      refine To.trans this (To.eq fun n => ?_)
      simp [rowP, List.range'_succ]
include hx hcs hcl in
theorem spec_l5 (x5 : List (List S60)) (W H : Int) (r k i : Nat) (hr : r ≤ 100000) (hk : k ≤ 100000) (hi : i < cs.length) : ∀ (d y : Nat) (u : List S60), y + d = (rd_T66 l (cs[i])).f2.toNat → u.length + 4 * d ≤ 1000000 →
    To (fun n => spec_l04Order.l5 n cs x5 W H (r : Int) (k : Int) u (i : Int) (y : Int) p w h r0 l (rd_T66 l (cs[i])).f0 (rd_T66 l (cs[i])).f1 (rd_T66 l (cs[i])).f2 (rd_T66 l (cs[i])).f3)
       (fun n => spec_l04Order.l4 n cs x5 W H (r : Int) (k : Int) (u ++ compP (cs[i]) (rd_T66 l (cs[i])) r k y d) ((i + 1 : Nat) : Int) p w h r0 l) := by
  obtain ⟨h0, h1⟩ := hcs (cs[i]) (List.getElem_mem hi)
  obtain ⟨_, g1, g2, _⟩ := compOk_iff.1 (rdC_ok hx _ h0 h1)
  intro d
  induction d with
  | zero =>
    intro y u hy hu
    refine To.step fun n => ?_
    show spec_l04Order.l5 (n + 1) cs x5 W H r k u i y p w h r0 l _ _ _ _ = _
    rw [spec_l04Order.l5, if_neg (by omega), wsucc (by omega)]
    simp [compP]
  | succ d ih =>
    intro y u hy hu
    refine To.trans (To.step fun n => ?_) (To.trans (spec_l6 p w h r0 l hx cs hcs x5 W H r k i y hr hk hi (by omega) (rd_T66 l (cs[i])).f1.toNat 0 u (by omega) (by omega)) ?_)
    · show spec_l04Order.l5 (n + 1) cs x5 W H r k u i y p w h r0 l _ _ _ _ = _
      rw [spec_l04Order.l5, if_pos (by omega)]
      rfl
    · have := ih (y + 1) (u ++ rowP (cs[i]) (rd_T66 l (cs[i])) r k y 0 (rd_T66 l (cs[i])).f1.toNat) (by omega) (by rw [List.length_append, rowP_len]; omega)
      refine To.trans this (To.eq fun n => ?_)
      simp [compP, List.range'_succ]
include hx hcs hcl in
theorem spec_l4 (x5 : List (List S60)) (hx5 : x5.length ≤ 1000000) (W H : Int) (r k : Nat) (hr : r ≤ 100000) (hk : k ≤ 100000) : ∀ (d i : Nat) (u : List S60), i + d = cs.length → u.length + 16 * d ≤ 1000000 →
    To (fun n => spec_l04Order.l4 n cs x5 W H (r : Int) (k : Int) u (i : Int) p w h r0 l)
       (fun n => spec_l04Order.l3 n cs (x5 ++ [u ++ unitP l r k (cs.drop i)]) W H (r : Int) ((k + 1 : Nat) : Int) p w h r0 l) := by
  intro d
  induction d with
  | zero =>
    intro i u hi hu
    refine To.step fun n => ?_
    show spec_l04Order.l4 (n + 1) cs x5 W H r k u i p w h r0 l = _
    rw [spec_l04Order.l4, if_neg (by omega), if_pos (by omega), wsucc (by omega), List.drop_eq_nil_of_le (by omega)]
    simp [unitP]
  | succ d ih =>
    intro i u hi hu
    have hil : i < cs.length := by omega
    obtain ⟨h0, h1⟩ := hcs (cs[i]) (List.getElem_mem hil)
    obtain ⟨_, g1, g2, _⟩ := compOk_iff.1 (rdC_ok hx _ h0 h1)
    have hm : (rd_T66 l (cs[i])).f2.toNat * (rd_T66 l (cs[i])).f1.toNat ≤ 4 * 4 := Nat.mul_le_mul (by omega) (by omega)
    refine To.trans (To.step fun n => ?_) (To.trans (spec_l5 p w h r0 l hx cs hcs hcl x5 W H r k i hr hk hil (rd_T66 l (cs[i])).f2.toNat 0 u (by omega) (by omega)) ?_)
    · show spec_l04Order.l4 (n + 1) cs x5 W H r k u i p w h r0 l = _
      rw [spec_l04Order.l4, if_pos (by omega), if_pos (by omega), rd_nat cs i hil, if_pos h0, if_pos h1]
      rfl
    · have := ih (i + 1) (u ++ compP (cs[i]) (rd_T66 l (cs[i])) r k 0 (rd_T66 l (cs[i])).f2.toNat) (by omega) (by rw [List.length_append, compP_len]; omega)
      refine To.trans this (To.eq fun n => ?_)
      rw [drop_at cs i hil]
      simp only [unitP, List.flatMap_cons, List.append_assoc]
include hx hcs hcl in
theorem spec_l3 (W : Nat) (hW : W ≤ 100000) (H : Int) (r : Nat) (hr : r ≤ 100000) (hcl2 : 16 * cs.length ≤ 1000000) : ∀ (d k : Nat) (x5 : List (List S60)), k + d = W → x5.length + d ≤ 1000000 →
    To (fun n => spec_l04Order.l3 n cs x5 (W : Int) H (r : Int) (k : Int) p w h r0 l)
       (fun n => spec_l04Order.l2 n cs (x5 ++ (List.range' k d).map fun k => unitP l r k cs) (W : Int) H ((r + 1 : Nat) : Int) p w h r0 l) := by
  intro d
  induction d with
  | zero =>
    intro k x5 hk hx5
    refine To.step fun n => ?_
    show spec_l04Order.l3 (n + 1) cs x5 W H r k p w h r0 l = _
    rw [spec_l04Order.l3, if_neg (by omega), wsucc (by omega)]
    simp
  | succ d ih =>
    intro k x5 hk hx5
    refine To.trans (To.step fun n => ?_) (To.trans (spec_l4 p w h r0 l hx cs hcs hcl x5 (by omega) (W : Int) H r k hr (by omega) cs.length 0 [] (by omega) (by simp; omega)) ?_)
    · show spec_l04Order.l3 (n + 1) cs x5 W H r k p w h r0 l = _
      rw [spec_l04Order.l3, if_pos (by omega)]
      rfl
    · have := ih (k + 1) (x5 ++ [[] ++ unitP l r k (cs.drop 0)]) (by omega) (by simp; omega)
      refine To.trans this (To.eq fun n => ?_)
      simp [List.range'_succ]
include hx hcs hcl in
theorem spec_l2 (W H : Nat) (hW : W ≤ 256) (hH : H ≤ 1000) (hcl2 : 16 * cs.length ≤ 1000000) : ∀ (d r : Nat) (x5 : List (List S60)), r + d = H → x5.length + W * d ≤ 1000000 →
    To (fun n => spec_l04Order.l2 n cs x5 (W : Int) (H : Int) (r : Int) p w h r0 l)
       (fun _ => some (x5 ++ (List.range' r d).flatMap fun r => (List.range' 0 W).map fun k => unitP l r k cs)) := by
  intro d
  induction d with
  | zero =>
    intro r x5 hr hx5
    refine To.step fun n => ?_
    show spec_l04Order.l2 (n + 1) cs x5 W H r p w h r0 l = _
    rw [spec_l04Order.l2, if_neg (by omega)]
    simp
  | succ d ih =>
    intro r x5 hr hx5
    rw [Nat.mul_succ] at hx5
    refine To.trans (To.step fun n => ?_) (To.trans (spec_l3 p w h r0 l hx cs hcs hcl W (by omega) (H : Int) r (by omega) hcl2 W 0 x5 (by omega) (by omega)) ?_)
    · show spec_l04Order.l2 (n + 1) cs x5 W H r p w h r0 l = _
      rw [spec_l04Order.l2, if_pos (by omega)]
      rfl
    · have := ih (r + 1) (x5 ++ (List.range' 0 W).map fun k => unitP l r k cs) (by omega) (by simp; omega)
      refine To.trans this (To.eq fun n => ?_)
      simp [List.range'_succ]
end
theorem spec_l1 (cs : List Int) (hcs : 0 < cs.length) (sw sh : Int) (hsw : 1 ≤ sw ∧ sw ≤ 100000) (r : Nat) (hr : r ≤ 100000) : ∀ (d k : Nat) (x5 : List (List S60)), (k : Int) + d = upV sw 8 → x5.length + d ≤ 2000000 →
    To (fun n => spec_l04Order.l1 n cs x5 sw sh (r : Int) (k : Int)) (fun n => spec_l04Order.l0 n cs (x5 ++ (List.range' k d).map fun k : Nat => [⟨rd cs 0, (r : Int), (k : Int)⟩]) sw sh ((r + 1 : Nat) : Int)) := by
  intro d
  have hu := upV_in sw 8 (by omega) (by omega)
  induction d with
  | zero =>
    intro k x5 hk hx5
    refine To.step fun n => ?_
    show spec_l04Order.l1 (n + 1) cs x5 sw sh r k = _
    rw [spec_l04Order.l1, specUp_eq sw 8 (by omega) (by omega), Option.bind_some, if_neg (by omega), wsucc (by omega)]
    simp
  | succ d ih =>
    intro k x5 hk hx5
    refine To.trans (To.step fun n => ?_) (To.trans (ih (k + 1) (x5 ++ [[⟨rd cs 0, (r : Int), (k : Int)⟩]]) (by omega) (by simp; omega)) (To.eq fun n => ?_))
    · show spec_l04Order.l1 (n + 1) cs x5 sw sh r k = _
      rw [spec_l04Order.l1, specUp_eq sw 8 (by omega) (by omega), Option.bind_some, if_pos (by omega), if_pos (by omega), if_pos (by omega), wsucc (by omega)]
    · simp [List.range'_succ]
theorem spec_l0 (cs : List Int) (hcs : 0 < cs.length) (sw sh : Int) (hsw : 1 ≤ sw ∧ sw ≤ 1024) (hsh : 1 ≤ sh ∧ sh ≤ 1024) : ∀ (d r : Nat) (x5 : List (List S60)), (r : Int) + d = upV sh 8 → x5.length + 1024 * d ≤ 2000000 →
    To (fun n => spec_l04Order.l0 n cs x5 sw sh (r : Int)) (fun _ => some (x5 ++ (List.range' r d).flatMap fun r => (List.range' 0 (upV sw 8).toNat).map fun k => [⟨rd cs 0, ((r : Nat) : Int), ((k : Nat) : Int)⟩])) := by
  intro d
  have hu := upV_in sw 8 (by omega) (by omega)
  have hu2 := upV_in sh 8 (by omega) (by omega)
  induction d with
  | zero =>
    intro r x5 hr hx5
    refine To.step fun n => ?_
    show spec_l04Order.l0 (n + 1) cs x5 sw sh r = _
    rw [spec_l04Order.l0, specUp_eq sh 8 (by omega) (by omega), Option.bind_some, if_neg (by omega)]
    simp
  | succ d ih =>
    intro r x5 hr hx5
    refine To.trans (To.step fun n => ?_) (To.trans (spec_l1 cs hcs sw sh (by omega) r (by omega) (upV sw 8).toNat 0 x5 (by omega) (by omega)) (To.trans (ih (r + 1) _ (by omega) (by simp; omega)) (To.eq fun n => ?_)))
    · show spec_l04Order.l0 (n + 1) cs x5 sw sh r = _
      rw [spec_l04Order.l0, specUp_eq sh 8 (by omega) (by omega), Option.bind_some, if_pos (by omega)]
      rfl
    · simp [List.range'_succ]
def orderL (w h : Int) (l : List S66) (cs : List Int) : List (List S60) :=
  if cs.length = 1 then (List.range' 0 (upV (sizeV w h l (rd cs 0)).2 8).toNat).flatMap fun r => (List.range' 0 (upV (sizeV w h l (rd cs 0)).1 8).toNat).map fun k => [⟨rd cs 0, ((r : Nat) : Int), ((k : Nat) : Int)⟩]
  else (List.range' 0 (unitsV w h l).2.toNat).flatMap fun r => (List.range' 0 (unitsV w h l).1.toNat).map fun k => unitP l r k cs
theorem bind_to {α β : Type} {f : Nat → Option α} {g : Nat → α → Option β} {v : α} {r : Option β} (N : Nat) (hf : ∀ k : Nat, N ≤ k → f k = some v) (hg : ∃ K : Nat, ∀ k : Nat, K ≤ k → g k v = r) : ∃ K : Nat, ∀ k : Nat, K ≤ k → ((f k).bind (g k)) = r := by
  obtain ⟨K, hg⟩ := hg
  exact ⟨max N K, fun k hk => by rw [hf k (by omega), Option.bind_some, hg k (by omega)]⟩
theorem specOrder_ends {p w h r : Int} {l : List S66} (hb : frameB p w h r l = true) (cs : List Int) (hcs : ∀ c ∈ cs, 0 ≤ c ∧ c < (l.length : Int)) (hc0 : 0 < cs.length) (hcl : cs.length ≤ 4) : ∃ K : Nat, ∀ k : Nat, K ≤ k → spec_l04Order.f k p w h r l cs = some (orderL w h l cs) := by
  unfold spec_l04Order.f orderL
  simp only [Option.bind_some]
  by_cases h1 : cs.length = 1
  · simp only [h1, if_true, show ((1 : Nat) : Int) = 1 from rfl, show (0 : Int) < 1 from by decide]
    have hr0 : 0 ≤ rd cs 0 ∧ rd cs 0 < (l.length : Int) := by
      have : rd cs ((0 : Nat) : Int) = cs[0] := rd_nat cs 0 hc0
      have e : rd cs 0 = cs[0] := this
      rw [e]; exact hcs _ (List.getElem_mem hc0)
    obtain ⟨s1, s2⟩ := sizeV_in hb (rd cs 0) hr0.1 hr0.2
    have u2 := upV_in (sizeV w h l (rd cs 0)).2 8 (by omega) (by omega)
    refine bind_to 100 (fun k hk => specSize_eq hb (rd cs 0) hr0.1 hr0.2 k hk) ?_
    have := spec_l0 cs hc0 (sizeV w h l (rd cs 0)).1 (sizeV w h l (rd cs 0)).2 s1 s2 (upV (sizeV w h l (rd cs 0)).2 8).toNat 0 [] (by omega) (by simp; omega)
    simpa using this.ends
  · have h1' : ¬ ((cs.length : Int) = 1) := by omega
    simp only [h1, h1', if_false]
    obtain ⟨u1, u2⟩ := unitsV_in hb
    refine bind_to 100 (fun k hk => specUnits_eq hb k hk) ?_
    have hmul : (unitsV w h l).1.toNat * (unitsV w h l).2.toNat ≤ 256 * 256 := Nat.mul_le_mul (by omega) (by omega)
    have := spec_l2 p w h r l (frameB_ok hb) cs hcs (by omega) (unitsV w h l).1.toNat (unitsV w h l).2.toNat (by omega) (by omega) (by omega) (unitsV w h l).2.toNat 0 [] (by omega) (by simp; omega)
    rw [Int.toNat_of_nonneg (by omega), Int.toNat_of_nonneg (by omega)] at this
    simpa using this.ends

section
variable (p w h r0 : Int) (l : List S66) (hx : ∀ x ∈ l, compOk x = true) (cs : List Int) (hcs : ∀ c ∈ cs, 0 ≤ c ∧ c < (l.length : Int)) (hcl : cs.length ≤ 1000)
include hx hcs in
theorem impl_l6 (x5 : List (List S60)) (W H B R C : Int) (r k i y : Nat) (hr : r ≤ 100000) (hk : k ≤ 100000) (hi : i < cs.length) (hy : y ≤ 100) : ∀ (d z : Nat) (u : List S60), z + d = (rd_T66 l (cs[i])).f1.toNat → u.length + d ≤ 1000000 →
    To (fun n => impl_Frame_unitPlaces.l6 n cs x5 W (r : Int) (k : Int) u (cs[i]) (rd_T66 l (cs[i])).f1 (rd_T66 l (cs[i])).f2 (y : Int) H R B C cs (cs.length : Int) (i : Int) (rd_T66 l (cs[i])).f2 (y : Int) (rd_T66 l (cs[i])).f1 (z : Int) p w h r0 l)
       (fun n => impl_Frame_unitPlaces.l5 n cs x5 W (r : Int) (k : Int) (u ++ rowP (cs[i]) (rd_T66 l (cs[i])) r k y z d) (cs[i]) (rd_T66 l (cs[i])).f1 (rd_T66 l (cs[i])).f2 H R B C cs (cs.length : Int) (i : Int) (rd_T66 l (cs[i])).f2 ((y + 1 : Nat) : Int) p w h r0 l) := by
  obtain ⟨h0, h1⟩ := hcs (cs[i]) (List.getElem_mem hi)
  obtain ⟨_, g1, g2, _⟩ := compOk_iff.1 (rdC_ok hx _ h0 h1)
  have m1 := mulw (a := (r : Int)) (by omega) g2
  have m2 := mulw (a := (k : Int)) (by omega) g1
  intro d
  induction d with
  | zero =>
    intro z u hz hu
    refine To.step fun n => ?_
    show impl_Frame_unitPlaces.l6 (n + 1) cs x5 W r k u _ _ _ y H R B C cs _ i _ y _ z p w h r0 l = _
    rw [impl_Frame_unitPlaces.l6, if_neg (by omega), wsucc (by omega)]
    simp [rowP]
  | succ d ih =>
    intro z u hz hu
    refine To.trans (To.step fun n => ?_) (To.trans (ih (z + 1) (u ++ [⟨cs[i], (r : Int) * (rd_T66 l (cs[i])).f2 + (y : Int), (k : Int) * (rd_T66 l (cs[i])).f1 + (z : Int)⟩]) (by omega) (by simp; omega)) (To.eq fun n => ?_))
    · show impl_Frame_unitPlaces.l6 (n + 1) cs x5 W r k u _ _ _ y H R B C cs _ i _ y _ z p w h r0 l = _
      rw [impl_Frame_unitPlaces.l6, if_pos (by omega), if_pos (by omega), wsucc (by omega), w64 (x := (r : Int) * (rd_T66 l (cs[i])).f2) (by omega) (by omega), w64 (x := (k : Int) * (rd_T66 l (cs[i])).f1) (by omega) (by omega), w64 (by omega) (by omega), w64 (by omega) (by omega)]
    · simp [rowP, List.range'_succ]
include hx hcs in
theorem impl_l5 (x5 : List (List S60)) (W H B R C : Int) (r k i : Nat) (hr : r ≤ 100000) (hk : k ≤ 100000) (hi : i < cs.length) (hi9 : i ≤ 1048576) : ∀ (d y : Nat) (u : List S60), y + d = (rd_T66 l (cs[i])).f2.toNat → u.length + 4 * d ≤ 1000000 →
    To (fun n => impl_Frame_unitPlaces.l5 n cs x5 W (r : Int) (k : Int) u (cs[i]) (rd_T66 l (cs[i])).f1 (rd_T66 l (cs[i])).f2 H R B C cs (cs.length : Int) (i : Int) (rd_T66 l (cs[i])).f2 (y : Int) p w h r0 l)
       (fun n => impl_Frame_unitPlaces.l4 n cs x5 W (r : Int) (k : Int) (u ++ compP (cs[i]) (rd_T66 l (cs[i])) r k y d) H R B C cs (cs.length : Int) ((i + 1 : Nat) : Int) p w h r0 l) := by
  obtain ⟨h0, h1⟩ := hcs (cs[i]) (List.getElem_mem hi)
  obtain ⟨_, g1, g2, _⟩ := compOk_iff.1 (rdC_ok hx _ h0 h1)
  intro d
  induction d with
  | zero =>
    intro y u hy hu
    refine To.step fun n => ?_
    show impl_Frame_unitPlaces.l5 (n + 1) cs x5 W r k u _ _ _ H R B C cs _ i _ y p w h r0 l = _
    rw [impl_Frame_unitPlaces.l5, if_neg (by omega), wsucc (by omega)]
    simp [compP]
  | succ d ih =>
    intro y u hy hu
    refine To.trans (To.step fun n => ?_) (To.trans (impl_l6 p w h r0 l hx cs hcs x5 W H B R C r k i y hr hk hi (by omega) (rd_T66 l (cs[i])).f1.toNat 0 u (by omega) (by omega)) ?_)
    · show impl_Frame_unitPlaces.l5 (n + 1) cs x5 W r k u _ _ _ H R B C cs _ i _ y p w h r0 l = _
      rw [impl_Frame_unitPlaces.l5, if_pos (by omega)]
      rfl
    · have := ih (y + 1) (u ++ rowP (cs[i]) (rd_T66 l (cs[i])) r k y 0 (rd_T66 l (cs[i])).f1.toNat) (by omega) (by rw [List.length_append, rowP_len]; omega)
      refine To.trans this (To.eq fun n => ?_)
      simp [compP, List.range'_succ]
include hx hcs hcl in
theorem impl_l4 (x5 : List (List S60)) (hx5 : x5.length ≤ 1000000) (W H R B : Int) (r k : Nat) (hr : r ≤ 100000) (hk : k ≤ 100000) : ∀ (d i : Nat) (u : List S60), i + d = cs.length → u.length + 16 * d ≤ 1000000 →
    To (fun n => impl_Frame_unitPlaces.l4 n cs x5 W (r : Int) (k : Int) u H R B (k : Int) cs (cs.length : Int) (i : Int) p w h r0 l)
       (fun n => impl_Frame_unitPlaces.l3 n cs (x5 ++ [u ++ unitP l r k (cs.drop i)]) W (r : Int) H R B ((k + 1 : Nat) : Int) p w h r0 l) := by
  intro d
  induction d with
  | zero =>
    intro i u hi hu
    refine To.step fun n => ?_
    show impl_Frame_unitPlaces.l4 (n + 1) cs x5 W r k u H R B k cs _ i p w h r0 l = _
    rw [impl_Frame_unitPlaces.l4, if_neg (by omega), if_pos (by omega), wsucc (by omega), List.drop_eq_nil_of_le (by omega)]
    simp [unitP]
  | succ d ih =>
    intro i u hi hu
    have hil : i < cs.length := by omega
    obtain ⟨h0, h1⟩ := hcs (cs[i]) (List.getElem_mem hil)
    obtain ⟨_, g1, g2, _⟩ := compOk_iff.1 (rdC_ok hx _ h0 h1)
    have hm : (rd_T66 l (cs[i])).f2.toNat * (rd_T66 l (cs[i])).f1.toNat ≤ 4 * 4 := Nat.mul_le_mul (by omega) (by omega)
    refine To.trans (To.step fun n => ?_) (To.trans (impl_l5 p w h r0 l hx cs hcs x5 W H B R (k : Int) r k i hr hk hil (by omega) (rd_T66 l (cs[i])).f2.toNat 0 u (by omega) (by omega)) ?_)
    · show impl_Frame_unitPlaces.l4 (n + 1) cs x5 W r k u H R B k cs _ i p w h r0 l = _
      rw [impl_Frame_unitPlaces.l4, if_pos (by omega), if_pos (by omega), if_pos (by omega), rd_nat cs i hil, if_pos h0, if_pos h1]
      rfl
    · have := ih (i + 1) (u ++ compP (cs[i]) (rd_T66 l (cs[i])) r k 0 (rd_T66 l (cs[i])).f2.toNat) (by omega) (by rw [List.length_append, compP_len]; omega)
      refine To.trans this (To.eq fun n => ?_)
      rw [drop_at cs i hil]
      simp only [unitP, List.flatMap_cons, List.append_assoc]
include hx hcs hcl in
theorem impl_l3 (W : Nat) (hW : W ≤ 100000) (H : Int) (r : Nat) (hr : r ≤ 100000) (hcl2 : 16 * cs.length ≤ 1000000) : ∀ (d k : Nat) (x5 : List (List S60)), k + d = W → x5.length + d ≤ 1000000 →
    To (fun n => impl_Frame_unitPlaces.l3 n cs x5 (W : Int) (r : Int) H (r : Int) (W : Int) (k : Int) p w h r0 l)
       (fun n => impl_Frame_unitPlaces.l2 n cs (x5 ++ (List.range' k d).map fun k => unitP l r k cs) (W : Int) H ((r + 1 : Nat) : Int) p w h r0 l) := by
  intro d
  induction d with
  | zero =>
    intro k x5 hk hx5
    refine To.step fun n => ?_
    show impl_Frame_unitPlaces.l3 (n + 1) cs x5 W r H r W k p w h r0 l = _
    rw [impl_Frame_unitPlaces.l3, if_neg (by omega), wsucc (by omega)]
    simp
  | succ d ih =>
    intro k x5 hk hx5
    refine To.trans (To.step fun n => ?_) (To.trans (impl_l4 p w h r0 l hx cs hcs hcl x5 (by omega) (W : Int) H (r : Int) (W : Int) r k hr (by omega) cs.length 0 [] (by omega) (by simp; omega)) ?_)
    · show impl_Frame_unitPlaces.l3 (n + 1) cs x5 W r H r W k p w h r0 l = _
      rw [impl_Frame_unitPlaces.l3, if_pos (by omega)]
      rfl
    · have := ih (k + 1) (x5 ++ [[] ++ unitP l r k (cs.drop 0)]) (by omega) (by simp; omega)
      refine To.trans this (To.eq fun n => ?_)
      simp [List.range'_succ]
include hx hcs hcl in
theorem impl_l2 (W H : Nat) (hW : W ≤ 256) (hH : H ≤ 1000) (hcl2 : 16 * cs.length ≤ 1000000) : ∀ (d r : Nat) (x5 : List (List S60)), r + d = H → x5.length + W * d ≤ 1000000 →
    To (fun n => impl_Frame_unitPlaces.l2 n cs x5 (W : Int) (H : Int) (r : Int) p w h r0 l)
       (fun _ => some (x5 ++ (List.range' r d).flatMap fun r => (List.range' 0 W).map fun k => unitP l r k cs)) := by
  intro d
  induction d with
  | zero =>
    intro r x5 hr hx5
    refine To.step fun n => ?_
    show impl_Frame_unitPlaces.l2 (n + 1) cs x5 W H r p w h r0 l = _
    rw [impl_Frame_unitPlaces.l2, if_neg (by omega)]
    simp
  | succ d ih =>
    intro r x5 hr hx5
    rw [Nat.mul_succ] at hx5
    refine To.trans (To.step fun n => ?_) (To.trans (impl_l3 p w h r0 l hx cs hcs hcl W (by omega) (H : Int) r (by omega) hcl2 W 0 x5 (by omega) (by omega)) ?_)
    · show impl_Frame_unitPlaces.l2 (n + 1) cs x5 W H r p w h r0 l = _
      rw [impl_Frame_unitPlaces.l2, if_pos (by omega)]
      rfl
    · have := ih (r + 1) (x5 ++ (List.range' 0 W).map fun k => unitP l r k cs) (by omega) (by simp; omega)
      refine To.trans this (To.eq fun n => ?_)
      simp [List.range'_succ]
end
theorem impl_l1 (cs : List Int) (hcs : 0 < cs.length) (W : Nat) (H : Int) (r : Nat) (hr : r ≤ 100000) (hW : W ≤ 100000) : ∀ (d k : Nat) (x5 : List (List S60)), k + d = W → x5.length + d ≤ 2000000 →
    To (fun n => impl_Frame_unitPlaces.l1 n cs x5 (W : Int) (r : Int) H (r : Int) (W : Int) (k : Int)) (fun n => impl_Frame_unitPlaces.l0 n cs (x5 ++ (List.range' k d).map fun k : Nat => [⟨rd cs 0, (r : Int), (k : Int)⟩]) (W : Int) H ((r + 1 : Nat) : Int)) := by
  intro d
  induction d with
  | zero =>
    intro k x5 hk hx5
    refine To.step fun n => ?_
    show impl_Frame_unitPlaces.l1 (n + 1) cs x5 W r H r W k = _
    rw [impl_Frame_unitPlaces.l1, if_neg (by omega), wsucc (by omega)]
    simp
  | succ d ih =>
    intro k x5 hk hx5
    refine To.trans (To.step fun n => ?_) (To.trans (ih (k + 1) (x5 ++ [[⟨rd cs 0, (r : Int), (k : Int)⟩]]) (by omega) (by simp; omega)) (To.eq fun n => ?_))
    · show impl_Frame_unitPlaces.l1 (n + 1) cs x5 W r H r W k = _
      rw [impl_Frame_unitPlaces.l1, if_pos (by omega), if_pos (by omega), if_pos (by omega), wsucc (by omega)]
    · simp [List.range'_succ]
theorem impl_l0 (cs : List Int) (hcs : 0 < cs.length) (W H : Nat) (hW : W ≤ 1024) (hH : H ≤ 1024) : ∀ (d r : Nat) (x5 : List (List S60)), r + d = H → x5.length + 1024 * d ≤ 2000000 →
    To (fun n => impl_Frame_unitPlaces.l0 n cs x5 (W : Int) (H : Int) (r : Int)) (fun _ => some (x5 ++ (List.range' r d).flatMap fun r => (List.range' 0 W).map fun k => [⟨rd cs 0, ((r : Nat) : Int), ((k : Nat) : Int)⟩])) := by
  intro d
  induction d with
  | zero =>
    intro r x5 hr hx5
    refine To.step fun n => ?_
    show impl_Frame_unitPlaces.l0 (n + 1) cs x5 W H r = _
    rw [impl_Frame_unitPlaces.l0, if_neg (by omega)]
    simp
  | succ d ih =>
    intro r x5 hr hx5
    refine To.trans (To.step fun n => ?_) (To.trans (impl_l1 cs hcs W (H : Int) r (by omega) (by omega) W 0 x5 (by omega) (by omega)) (To.trans (ih (r + 1) _ (by omega) (by simp; omega)) (To.eq fun n => ?_)))
    · show impl_Frame_unitPlaces.l0 (n + 1) cs x5 W H r = _
      rw [impl_Frame_unitPlaces.l0, if_pos (by omega)]
      rfl
    · simp [List.range'_succ]
theorem implNeeded_eq {p w h r : Int} {l : List S66} (hb : frameB p w h r l = true) (c : Int) (h0 : 0 ≤ c) (h1 : c < (l.length : Int)) (k : Nat) (hk : 100 ≤ k) : impl_Frame_needed.f k p w h r l c = some (upV (sizeV w h l c).1 8, upV (sizeV w h l c).2 8) := by
  obtain ⟨s1, s2⟩ := sizeV_in hb c h0 h1
  unfold impl_Frame_needed.f
  rw [implSize_eq hb _ h0 h1 k (by omega), Option.bind_some, implUp_eq _ 8 (by omega) (by omega), Option.bind_some, implUp_eq _ 8 (by omega) (by omega)]; rfl
theorem implPlaces_ends {p w h r : Int} {l : List S66} (hb : frameB p w h r l = true) (cs : List Int) (hcs : ∀ c ∈ cs, 0 ≤ c ∧ c < (l.length : Int)) (hc0 : 0 < cs.length) (hcl : cs.length ≤ 4) : ∃ K : Nat, ∀ k : Nat, K ≤ k → impl_Frame_unitPlaces.f k p w h r l cs = some (orderL w h l cs) := by
  unfold impl_Frame_unitPlaces.f orderL
  simp only [Option.bind_some]
  by_cases h1 : cs.length = 1
  · simp only [h1, if_true, show ((1 : Nat) : Int) = 1 from rfl, show (0 : Int) < 1 from by decide]
    have hr0 : 0 ≤ rd cs 0 ∧ rd cs 0 < (l.length : Int) := by
      have this : rd cs ((0 : Nat) : Int) = cs[0] := rd_nat cs 0 hc0
      have e : rd cs 0 = cs[0] := this
      rw [e]; exact hcs _ (List.getElem_mem hc0)
    obtain ⟨s1, s2⟩ := sizeV_in hb (rd cs 0) hr0.1 hr0.2
    have v1 := upV_in (sizeV w h l (rd cs 0)).1 8 (by omega) (by omega)
    have v2 := upV_in (sizeV w h l (rd cs 0)).2 8 (by omega) (by omega)
    refine bind_to 100 (fun k hk => implNeeded_eq hb (rd cs 0) hr0.1 hr0.2 k hk) ?_
    have := impl_l0 cs hc0 (upV (sizeV w h l (rd cs 0)).1 8).toNat (upV (sizeV w h l (rd cs 0)).2 8).toNat (by omega) (by omega) (upV (sizeV w h l (rd cs 0)).2 8).toNat 0 [] (by omega) (by simp; omega)
    rw [Int.toNat_of_nonneg (show 0 ≤ upV (sizeV w h l (rd cs 0)).1 8 by omega), Int.toNat_of_nonneg (show 0 ≤ upV (sizeV w h l (rd cs 0)).2 8 by omega)] at this
    simpa using this.ends
  · have h1' : ¬ ((cs.length : Int) = 1) := by omega
    simp only [h1, h1', if_false]
    obtain ⟨u1, u2⟩ := unitsV_in hb
    refine bind_to 100 (fun k hk => implUnits_eq hb k hk) ?_
    have hmul : (unitsV w h l).1.toNat * (unitsV w h l).2.toNat ≤ 256 * 256 := Nat.mul_le_mul (by omega) (by omega)
    have := impl_l2 p w h r l (frameB_ok hb) cs hcs (by omega) (unitsV w h l).1.toNat (unitsV w h l).2.toNat (by omega) (by omega) (by omega) (unitsV w h l).2.toNat 0 [] (by omega) (by simp; omega)
    rw [Int.toNat_of_nonneg (by omega), Int.toNat_of_nonneg (by omega)] at this
    simpa using this.ends

def risB (n : Int) : Int → List Int → Bool
  | _, [] => true
  | q, c :: cs => decide (0 ≤ c ∧ c ≤ n - 1) && (decide (q < c) && risB n c cs)
theorem risB_in (n : Int) : ∀ (cs : List Int) (q : Int), risB n q cs = true → (∀ c ∈ cs, 0 ≤ c ∧ c < n) ∧ ((cs.length : Int) ≤ n - 1 - q ∨ cs = [])
  | [], q, _ => ⟨by simp, .inr rfl⟩
  | c :: cs, q, h => by
    simp only [risB, Bool.and_eq_true, decide_eq_true_eq] at h
    obtain ⟨h1, h2, h3⟩ := h
    obtain ⟨i1, i2⟩ := risB_in n cs c h3
    refine ⟨?_, .inl ?_⟩
    · intro x hx
      rcases List.mem_cons.1 hx with rfl | hx
      · omega
      · exact i1 x hx
    · rcases i2 with i2 | rfl
      · simp only [List.length_cons]; omega
      · simp; omega
def prevC (cs : List Int) (i : Nat) : Int := if i = 0 then -1 else cs.getD (i - 1) 0
theorem specComps_loop (p w h r : Int) (l : List S66) (hl : l.length ≤ 1048576) (cs : List Int) (hcs : cs.length ≤ 1048576) : ∀ (d k i : Nat), i + d = cs.length → d < k → spec_l04Comps.l0 k cs (i : Int) p w h r l = some (risB (l.length : Int) (prevC cs i) (cs.drop i) && decide ((cs.length : Int) > 0)) := by
  intro d
  induction d with
  | zero =>
    intro k i hi hk
    obtain ⟨k, rfl⟩ : ∃ m, k = m + 1 := ⟨k - 1, by omega⟩
    rw [spec_l04Comps.l0, if_neg (by omega), List.drop_eq_nil_of_le (by omega), risB, Bool.true_and]
  | succ d ih =>
    intro k i hi hk
    obtain ⟨k, rfl⟩ : ∃ m, k = m + 1 := ⟨k - 1, by omega⟩
    have hil : i < cs.length := by omega
    have hn : prevC cs (i + 1) = cs[i] := by
      unfold prevC
      rw [if_neg (by omega), Nat.add_sub_cancel, List.getD_eq_getElem?_getD, List.getElem?_eq_getElem hil]; rfl
    rw [spec_l04Comps.l0, if_pos (by omega), if_pos (by omega), rd_nat cs i hil, w64 (x := (l.length : Int) - 1) (by omega) (by omega), between_eq, Option.bind_some, wsucc (by omega), ih k (i + 1) (by omega) (by omega), drop_at cs i hil, risB, hn]
    by_cases h1 : 0 ≤ cs[i] ∧ cs[i] ≤ (l.length : Int) - 1
    · rw [decide_eq_true h1, if_pos rfl, Bool.true_and]
      by_cases h0 : (i : Int) > 0
      · obtain ⟨j, rfl⟩ : ∃ j, i = j + 1 := ⟨i - 1, by omega⟩
        have hp : prevC cs (j + 1) = cs[j] := by
          unfold prevC
          rw [if_neg (by omega), Nat.add_sub_cancel, List.getD_eq_getElem?_getD, List.getElem?_eq_getElem (by omega)]; rfl
        have e : wrap64 (((j + 1 : Nat) : Int) - 1) = (j : Int) := by rw [w64 (by omega) (by omega)]; omega
        rw [if_pos h0, e, if_pos (by omega), if_pos (by omega), rd_nat cs j (by omega), hp]
        by_cases h2 : cs[j] ≥ cs[j + 1]
        · rw [if_pos h2, decide_eq_false (show ¬ cs[j] < cs[j + 1] by omega)]; rfl
        · rw [if_neg h2, decide_eq_true (show cs[j] < cs[j + 1] by omega), Bool.true_and]
      · rw [if_neg h0]
        have : prevC cs i = -1 := by unfold prevC; rw [if_pos (by omega)]
        rw [this, decide_eq_true (show -1 < cs[i] by omega), Bool.true_and]
    · rw [decide_eq_false h1, if_neg (by decide)]; rfl
theorem implComps_loop (p w h r : Int) (l : List S66) (hl : l.length ≤ 1048576) (cs : List Int) (hcs : cs.length ≤ 1048576) (hb : frameB p w h r l = true) : ∀ (d k i : Nat), i + d = cs.length → 100 + d < k → impl_Frame_areComps.l0 k cs cs (cs.length : Int) (i : Int) p w h r l = some (risB (l.length : Int) (prevC cs i) (cs.drop i) && decide ((cs.length : Int) > 0)) := by
  intro d
  induction d with
  | zero =>
    intro k i hi hk
    obtain ⟨k, rfl⟩ : ∃ m, k = m + 1 := ⟨k - 1, by omega⟩
    rw [impl_Frame_areComps.l0, if_neg (by omega), List.drop_eq_nil_of_le (by omega), risB, Bool.true_and]
  | succ d ih =>
    intro k i hi hk
    obtain ⟨k, rfl⟩ : ∃ m, k = m + 1 := ⟨k - 1, by omega⟩
    have hil : i < cs.length := by omega
    have hn : prevC cs (i + 1) = cs[i] := by
      unfold prevC
      rw [if_neg (by omega), Nat.add_sub_cancel, List.getD_eq_getElem?_getD, List.getElem?_eq_getElem hil]; rfl
    have hci : compIn p w h r l cs[i] = decide (0 ≤ cs[i] ∧ cs[i] ≤ (l.length : Int) - 1) := by unfold compIn; rw [hb, Bool.true_and]
    rw [impl_Frame_areComps.l0, if_pos (by omega), if_pos (by omega), if_pos (by omega), rd_nat cs i hil, implHas_eq p w h r l hl _ k (by omega), hci, Option.bind_some, wsucc (by omega), ih k (i + 1) (by omega) (by omega), drop_at cs i hil, risB, hn]
    by_cases h1 : 0 ≤ cs[i] ∧ cs[i] ≤ (l.length : Int) - 1
    · rw [decide_eq_true h1, if_pos rfl, Bool.true_and]
      by_cases h0 : (i : Int) > 0
      · obtain ⟨j, rfl⟩ : ∃ j, i = j + 1 := ⟨i - 1, by omega⟩
        have hp : prevC cs (j + 1) = cs[j] := by
          unfold prevC
          rw [if_neg (by omega), Nat.add_sub_cancel, List.getD_eq_getElem?_getD, List.getElem?_eq_getElem (by omega)]; rfl
        have e : wrap64 (((j + 1 : Nat) : Int) - 1) = (j : Int) := by rw [w64 (by omega) (by omega)]; omega
        rw [if_pos h0, e, if_pos (by omega), if_pos (by omega), rd_nat cs j (by omega), hp]
        by_cases h2 : cs[j] ≥ cs[j + 1]
        · rw [if_pos h2, decide_eq_false (show ¬ cs[j] < cs[j + 1] by omega)]; rfl
        · rw [if_neg h2, decide_eq_true (show cs[j] < cs[j + 1] by omega), Bool.true_and]
      · rw [if_neg h0]
        have : prevC cs i = -1 := by unfold prevC; rw [if_pos (by omega)]
        rw [this, decide_eq_true (show -1 < cs[i] by omega), Bool.true_and]
    · rw [decide_eq_false h1, if_neg (by decide)]; rfl
def compsB (l : List S66) (cs : List Int) : Bool := risB (l.length : Int) (-1) cs && decide ((cs.length : Int) > 0)
theorem specComps_eq (p w h r : Int) (l : List S66) (hl : l.length ≤ 1048576) (cs : List Int) (hcs : cs.length ≤ 1048576) (k : Nat) (hk : cs.length < k) : spec_l04Comps.f k p w h r l cs = some (compsB l cs) := by
  unfold spec_l04Comps.f
  exact specComps_loop p w h r l hl cs hcs cs.length k 0 (by omega) hk
theorem implComps_eq (p w h r : Int) (l : List S66) (hl : l.length ≤ 1048576) (cs : List Int) (hcs : cs.length ≤ 1048576) (k : Nat) (hk : cs.length + 101 < k) : impl_Frame_areComps.f k p w h r l cs = some (frameB p w h r l && compsB l cs) := by
  unfold impl_Frame_areComps.f
  by_cases hb : frameB p w h r l = true
  · rw [hb, Bool.true_and]
    exact implComps_loop p w h r l hl cs hcs hb cs.length k 0 (by omega) (by omega)
  · have hb' : frameB p w h r l = false := by simpa using hb
    rw [hb', Bool.false_and]
    obtain ⟨k, rfl⟩ : ∃ m, k = m + 1 := ⟨k - 1, by omega⟩
    rw [impl_Frame_areComps.l0]
    by_cases h0 : (0 : Int) < (cs.length : Int)
    · rw [if_pos h0, if_pos (by omega), if_pos h0, implHas_eq p w h r l hl _ k (by omega), Option.bind_some]
      have : compIn p w h r l (rd cs 0) = false := by unfold compIn; rw [hb', Bool.false_and]
      rw [this, if_neg (by decide)]
    · rw [if_neg h0, decide_eq_false (by omega)]

theorem orderL_unit {p w h r : Int} {l : List S66} (hb : frameB p w h r l = true) (cs : List Int) (hcs : ∀ c ∈ cs, 0 ≤ c ∧ c < (l.length : Int)) (hcl : cs.length ≤ 4) : ∀ u ∈ orderL w h l cs, u.length ≤ 64 := by
  intro u hu
  unfold orderL at hu
  split at hu
  · obtain ⟨a, _, ha⟩ := List.mem_flatMap.1 hu
    obtain ⟨b, _, rfl⟩ := List.mem_map.1 ha
    simp
  · obtain ⟨a, _, ha⟩ := List.mem_flatMap.1 hu
    obtain ⟨b, _, rfl⟩ := List.mem_map.1 ha
    have := unitP_len l (frameB_ok hb) a b cs hcs
    omega
theorem flat_lenN {α : Type} (H W : Nat) (f : Nat → Nat → α) (s : Nat) : ((List.range' s H).flatMap fun r => (List.range' 0 W).map fun k => f r k).length = H * W := by
  induction H generalizing s with
  | zero => simp
  | succ H ih => rw [List.range'_succ, List.flatMap_cons, List.length_append, ih]; simp [Nat.succ_mul, Nat.add_comm]
theorem orderL_len {p w h r : Int} {l : List S66} (hb : frameB p w h r l = true) (cs : List Int) (hcs : ∀ c ∈ cs, 0 ≤ c ∧ c < (l.length : Int)) (hc0 : 0 < cs.length) : (orderL w h l cs).length ≤ 1048576 := by
  obtain ⟨u1, u2⟩ := unitsV_in hb
  have hr0 : 0 ≤ rd cs 0 ∧ rd cs 0 < (l.length : Int) := by
    have this : rd cs ((0 : Nat) : Int) = cs[0] := rd_nat cs 0 hc0
    have e : rd cs 0 = cs[0] := this
    rw [e]; exact hcs _ (List.getElem_mem hc0)
  obtain ⟨s1, s2⟩ := sizeV_in hb (rd cs 0) hr0.1 hr0.2
  have v1 := upV_in (sizeV w h l (rd cs 0)).1 8 (by omega) (by omega)
  have v2 := upV_in (sizeV w h l (rd cs 0)).2 8 (by omega) (by omega)
  unfold orderL
  split
  · rw [flat_lenN]
    have := Nat.mul_le_mul (show (upV (sizeV w h l (rd cs 0)).2 8).toNat ≤ 1024 by omega) (show (upV (sizeV w h l (rd cs 0)).1 8).toNat ≤ 1024 by omega)
    omega
  · rw [flat_lenN]
    have := Nat.mul_le_mul (show (unitsV w h l).2.toNat ≤ 1024 by omega) (show (unitsV w h l).1.toNat ≤ 1024 by omega)
    omega
theorem rdL4_nat (o : List (List S60)) (i : Nat) (h : i < o.length) : rd_L4 o (i : Int) = o[i] := by simp [rd_L4, List.getD_eq_getElem?_getD, h]
theorem specFlat_loop (o : List (List S60)) (ho : o.length ≤ 1048576) (hu : ∀ u ∈ o, u.length ≤ 64) : ∀ (d k i : Nat) (a : List S60), i + d = o.length → d < k → a.length ≤ 64 * i → spec_OrderOf.l0 k a o (i : Int) = some (a ++ (o.drop i).flatten) := by
  intro d
  induction d with
  | zero =>
    intro k i a hi hk ha
    obtain ⟨k, rfl⟩ : ∃ m, k = m + 1 := ⟨k - 1, by omega⟩
    rw [spec_OrderOf.l0, if_neg (by omega), List.drop_eq_nil_of_le (by omega)]; simp
  | succ d ih =>
    intro k i a hi hk ha
    obtain ⟨k, rfl⟩ : ∃ m, k = m + 1 := ⟨k - 1, by omega⟩
    have hil : i < o.length := by omega
    have := hu o[i] (List.getElem_mem hil)
    rw [spec_OrderOf.l0, if_pos (by omega), if_pos (by omega), rdL4_nat o i hil, if_pos (by omega), wsucc (by omega), ih k (i + 1) _ (by omega) (by omega) (by rw [List.length_append]; omega), drop_at o i hil, List.flatten_cons, List.append_assoc]
theorem implFlat_loop (o : List (List S60)) (ho : o.length ≤ 1048576) (hu : ∀ u ∈ o, u.length ≤ 64) : ∀ (d k i : Nat) (a : List S60), i + d = o.length → d < k → a.length ≤ 64 * i → impl_OrderOf.l0 k a o (o.length : Int) (i : Int) = some (a ++ (o.drop i).flatten) := by
  intro d
  induction d with
  | zero =>
    intro k i a hi hk ha
    obtain ⟨k, rfl⟩ : ∃ m, k = m + 1 := ⟨k - 1, by omega⟩
    rw [impl_OrderOf.l0, if_neg (by omega), List.drop_eq_nil_of_le (by omega)]; simp
  | succ d ih =>
    intro k i a hi hk ha
    obtain ⟨k, rfl⟩ : ∃ m, k = m + 1 := ⟨k - 1, by omega⟩
    have hil : i < o.length := by omega
    have := hu o[i] (List.getElem_mem hil)
    rw [impl_OrderOf.l0, if_pos (by omega), if_pos (by omega), if_pos (by omega), rdL4_nat o i hil, if_pos (by omega), wsucc (by omega), ih k (i + 1) _ (by omega) (by omega) (by rw [List.length_append]; omega), drop_at o i hil, List.flatten_cons, List.append_assoc]
def orderR (p w h r : Int) (l : List S66) (cs : List Int) : List S60 := if frameB p w h r l && compsB l cs then (orderL w h l cs).flatten else []
theorem flatten_len {α : Type} (n : Nat) : ∀ o : List (List α), (∀ u ∈ o, u.length ≤ n) → o.flatten.length ≤ n * o.length
  | [], _ => by simp
  | u :: o, h => by
    have h1 := flatten_len n o (fun x hx => h x (by simp [hx]))
    have h2 := h u (by simp)
    rw [List.flatten_cons, List.length_append, List.length_cons, Nat.mul_succ]
    omega
theorem compsB_parts {l : List S66} {cs : List Int} (hl4 : (l.length : Int) ≤ 4) (hc : compsB l cs = true) : (∀ c ∈ cs, 0 ≤ c ∧ c < (l.length : Int)) ∧ 0 < cs.length ∧ cs.length ≤ 4 := by
  unfold compsB at hc
  rw [Bool.and_eq_true, decide_eq_true_eq] at hc
  obtain ⟨i1, i2⟩ := risB_in _ _ _ hc.1
  refine ⟨i1, by omega, ?_⟩
  rcases i2 with h | h <;> first | omega | (rw [h]; simp)
theorem orderR_len (p w h r : Int) (l : List S66) (cs : List Int) : (orderR p w h r l cs).length ≤ 67108864 := by
  unfold orderR
  by_cases hbc : (frameB p w h r l && compsB l cs) = true
  · rw [if_pos hbc]
    rw [Bool.and_eq_true] at hbc
    obtain ⟨c1, c2, c3⟩ := compsB_parts (frameB_parts hbc.1).2.2.1.2 hbc.2
    have h1 := flatten_len 64 _ (orderL_unit hbc.1 cs c1 c3)
    have h2 := orderL_len hbc.1 cs c1 c2
    omega
  · rw [if_neg hbc]; simp
theorem specOrderOf_ends (p w h r : Int) (l : List S66) (hl : l.length ≤ 1048576) (cs : List Int) (hcs : cs.length ≤ 1048576) : ∃ K : Nat, ∀ k : Nat, K ≤ k → spec_OrderOf.f k p w h r l cs = some (orderR p w h r l cs) := by
  unfold spec_OrderOf.f orderR
  simp only [Option.bind_some]
  refine bind_to 100 (fun k hk => specFrame_eq p w h r l k hk) ?_
  by_cases hb : frameB p w h r l = true
  · simp only [hb, if_true, Bool.true_and]
    refine bind_to (cs.length + 1) (fun k hk => specComps_eq p w h r l hl cs hcs k (by omega)) ?_
    by_cases hc : compsB l cs = true
    · obtain ⟨c1, c2, c3⟩ := compsB_parts (frameB_parts hb).2.2.1.2 hc
      obtain ⟨K, hK⟩ := specOrder_ends hb cs c1 c2 c3
      have h2 := orderL_len hb cs c1 c2
      refine ⟨K + 1048578, fun k hk => ?_⟩
      obtain ⟨k, rfl⟩ : ∃ m, k = m + 1 := ⟨k - 1, by omega⟩
      rw [hc, if_pos rfl, spec_OrderOf.j0, if_neg (by decide), hK k (by omega), Option.bind_some]
      exact specFlat_loop _ h2 (orderL_unit hb cs c1 c3) (orderL w h l cs).length k 0 [] (by omega) (by omega) (by simp)
    · refine ⟨1, fun k hk => ?_⟩
      obtain ⟨k, rfl⟩ : ∃ m, k = m + 1 := ⟨k - 1, by omega⟩
      have hc' : compsB l cs = false := by simpa using hc
      rw [hc', spec_OrderOf.j0, if_pos (by rfl)]; rfl
  · have hb' : frameB p w h r l = false := by simpa using hb
    refine ⟨1, fun k hk => ?_⟩
    obtain ⟨k, rfl⟩ : ∃ m, k = m + 1 := ⟨k - 1, by omega⟩
    rw [hb', if_neg (by decide), spec_OrderOf.j0, if_pos rfl]; rfl
theorem implOrderOf_ends (p w h r : Int) (l : List S66) (hl : l.length ≤ 1048576) (cs : List Int) (hcs : cs.length ≤ 1048576) : ∃ K : Nat, ∀ k : Nat, K ≤ k → impl_OrderOf.f k p w h r l cs = some (orderR p w h r l cs) := by
  unfold impl_OrderOf.f orderR
  refine bind_to (cs.length + 102) (fun k hk => implComps_eq p w h r l hl cs hcs k (by omega)) ?_
  by_cases hbc : (frameB p w h r l && compsB l cs) = true
  · simp only [hbc, if_true]
    rw [Bool.and_eq_true] at hbc
    obtain ⟨hb, hc⟩ := hbc
    obtain ⟨c1, c2, c3⟩ := compsB_parts (frameB_parts hb).2.2.1.2 hc
    obtain ⟨K, hK⟩ := implPlaces_ends hb cs c1 c2 c3
    have h2 := orderL_len hb cs c1 c2
    refine bind_to K hK ⟨1048578, fun k hk => ?_⟩
    exact implFlat_loop _ h2 (orderL_unit hb cs c1 c3) (orderL w h l cs).length k 0 [] (by omega) (by omega) (by simp)
  · exact ⟨0, fun k _ => by rw [if_neg hbc, if_neg hbc]⟩

theorem eqComp_refl (a0 a1 a2 a3 : Int) : laws_eqComp.f a0 a1 a2 a3 a0 a1 a2 a3 = some true := by simp [laws_eqComp.f]
theorem eqCompS_loop (l : List S66) (hl : l.length ≤ 4611686018427387904) : ∀ (d k i : Nat), i + d = l.length → d < k → laws_eqCompS.l0 k l l (i : Int) = some true := by
  intro d
  induction d with
  | zero =>
    intro k i hi hk
    obtain ⟨k, rfl⟩ : ∃ m, k = m + 1 := ⟨k - 1, by omega⟩
    rw [laws_eqCompS.l0, if_neg (by omega)]
  | succ d ih =>
    intro k i hi hk
    obtain ⟨k, rfl⟩ : ∃ m, k = m + 1 := ⟨k - 1, by omega⟩
    rw [laws_eqCompS.l0, if_pos (by omega), if_pos (by omega), if_pos (by omega), eqComp_refl, Option.bind_some, if_pos rfl, wsucc (by omega)]
    exact ih k (i + 1) (by omega) (by omega)
theorem eqCompS_refl (l : List S66) (hl : l.length ≤ 4611686018427387904) (k : Nat) (hk : l.length < k) : laws_eqCompS.f k l l = some true := by
  unfold laws_eqCompS.f
  rw [if_pos rfl]
  exact eqCompS_loop l hl l.length k 0 (by omega) hk
def marksComp (m : Int) (n : Nat) : List S66 := (List.range n).map fun j : Nat => ⟨(m + 4 * (j : Int)), (m + 4 * (j : Int)) + 1, (m + 4 * (j : Int)) + 2, (m + 4 * (j : Int)) + 3⟩
theorem marksComp_len (m : Int) (n : Nat) : (marksComp m n).length = n := by simp [marksComp]
theorem rdComp_set (x : List S66) (i : Nat) (v : S66) (h : i < x.length) : rd_T66 (x.set (i : Int).toNat v) (i : Int) = v := by
  simp [rd_T66, h]
theorem rdComp_nat (l : List S66) (i : Nat) (h : i < l.length) : rd_T66 l (i : Int) = l[i] := by simp [rd_T66, List.getD_eq_getElem?_getD, h]
theorem markCompS_loop (m : Int) (n : Nat) (hm : -1 ≤ m ∧ m ≤ 1152921504606846976) (hn : n ≤ 140737488355328) : ∀ (d k i : Nat) (x : List S66), i + d = n → d < k → x.length = n → (∀ j : Nat, j < i → x[j]? = some ⟨(m + 4 * (j : Int)), (m + 4 * (j : Int)) + 1, (m + 4 * (j : Int)) + 2, (m + 4 * (j : Int)) + 3⟩) → laws_markCompS.l0 k x (m + 4 * (i : Int)) (i : Int) = some (m + 4 * (n : Int), marksComp m n) := by
  intro d
  induction d with
  | zero =>
    intro k i x h1 hk hx he
    obtain ⟨k, rfl⟩ : ∃ m, k = m + 1 := ⟨k - 1, by omega⟩
    rw [laws_markCompS.l0, if_neg (by omega)]
    have e : x = marksComp m n := by
      apply List.ext_getElem?
      intro j
      by_cases hj : j < n
      · rw [he j (by omega)]; simp [marksComp, hj]
      · rw [List.getElem?_eq_none (by omega), List.getElem?_eq_none (by rw [marksComp_len]; omega)]
    rw [e, show i = n by omega]
  | succ d ih =>
    intro k i x h1 hk hx he
    obtain ⟨k, rfl⟩ : ∃ m, k = m + 1 := ⟨k - 1, by omega⟩
    rw [laws_markCompS.l0, if_pos (by omega), if_pos (by omega)]
    simp only [Option.bind_some, rdComp_set x i _ (show i < x.length by omega), List.set_set]
    rw [wsucc (by omega), w64 (x := m + 4 * (i : Int) + 1) (by omega) (by omega), w64 (x := m + 4 * (i : Int) + 1 + 1) (by omega) (by omega), w64 (x := m + 4 * (i : Int) + 1 + 1 + 1) (by omega) (by omega), w64 (x := m + 4 * (i : Int) + 1 + 1 + 1 + 1) (by omega) (by omega), show m + 4 * (i : Int) + 1 + 1 + 1 + 1 = m + 4 * ((i + 1 : Nat) : Int) by omega]
    refine ih k (i + 1) _ (by omega) (by omega) (by simpa using hx) ?_
    intro j hj
    rw [Int.toNat_natCast, List.getElem?_set]
    by_cases e : i = j
    · subst e; simp [show i < x.length by omega]; omega
    · rw [if_neg e]; exact he j (by omega)
theorem markCompS_eq (l : List S66) (m : Int) (hm : -1 ≤ m ∧ m ≤ 1152921504606846976) (hn : l.length ≤ 140737488355328) (k : Nat) (hk : l.length < k) : laws_markCompS.f k l m = some (m + 4 * (l.length : Int), marksComp m l.length) := by
  unfold laws_markCompS.f
  have := markCompS_loop m l.length hm hn l.length k 0 l (by omega) hk rfl (by intro j hj; omega)
  simpa using this
def toC (x : S88) : S66 := ⟨x.f0, x.f1, x.f2, x.f3⟩
theorem toCompS_loop (l : List S88) (hl : l.length ≤ 1048576) : ∀ (d k i : Nat) (x : List S66), i + d = l.length → d < k → x.length = l.length → (∀ j, j < i → x[j]? = (l[j]?).map toC) → laws_toCompS.l0 k l x (i : Int) = some (l.map toC) := by
  intro d
  induction d with
  | zero =>
    intro k i x hi hk hx he
    obtain ⟨k, rfl⟩ : ∃ m, k = m + 1 := ⟨k - 1, by omega⟩
    rw [laws_toCompS.l0, if_neg (by omega)]
    congr 1
    apply List.ext_getElem?
    intro j
    by_cases hj : j < i
    · rw [he j hj, List.getElem?_map]
    · rw [List.getElem?_eq_none (by omega), List.getElem?_eq_none (by simp; omega)]
  | succ d ih =>
    intro k i x hi hk hx he
    obtain ⟨k, rfl⟩ : ∃ m, k = m + 1 := ⟨k - 1, by omega⟩
    have hrd : rd_T88 l (i : Int) = l[i] := by simp [rd_T88, List.getD_eq_getElem?_getD, show i < l.length by omega]
    rw [laws_toCompS.l0, if_pos (by omega), if_pos (by omega), hrd, laws_toComp.f, Option.bind_some, if_pos (by omega), wsucc (by omega)]
    refine ih k (i + 1) _ (by omega) (by omega) (by simpa using hx) ?_
    intro j hj
    rw [Int.toNat_natCast, List.getElem?_set]
    by_cases e : i = j
    · subst e; simp [show i < x.length by omega, List.getElem?_eq_getElem (show i < l.length by omega), toC]
    · rw [if_neg e]; exact he j (by omega)
theorem toCompS_eq (l : List S88) (hl : l.length ≤ 1048576) (k : Nat) (hk : l.length < k) : laws_toCompS.f k l = some (l.map toC) := by
  unfold laws_toCompS.f
  rw [if_pos (by omega), if_pos (by omega)]
  exact toCompS_loop l hl l.length k 0 _ (by omega) hk (by simp) (by intro j hj; omega)
theorem toFrame_eq (p w h r : Int) (l : List S88) (hl : l.length ≤ 1048576) (k : Nat) (hk : l.length < k) : laws_toFrame.f k p w h r l = some (p, w, h, r, l.map toC) := by
  unfold laws_toFrame.f; rw [toCompS_eq l hl k hk]; rfl
theorem szFrame_eq (p w h r : Int) (l : List S88) (hm : l.length ≤ maxLen) : laws_szFrame.f p w h r l 1048576 = some (if 1048576 - (l.length : Int) < 0 then -1 else 1048576 - (l.length : Int)) := by
  unfold maxLen at hm
  unfold laws_szFrame.f laws_szCompS.f
  rw [w64 (by omega) (by omega)]
  by_cases h : 1048576 - (l.length : Int) < 0
  · rw [if_pos h, if_pos h]; rfl
  · rw [if_neg h, if_neg h, Option.bind_some, if_neg h]
theorem eqFrame_refl (p w h r : Int) (l : List S66) (hl : l.length ≤ 1048576) (k : Nat) (hk : l.length < k) : laws_eqFrame.f k p w h r l p w h r l = some true := by
  unfold laws_eqFrame.f
  rw [if_pos rfl, if_pos rfl, if_pos rfl, if_pos rfl, eqCompS_refl l (by omega) k hk]; rfl

theorem toIntS_loop (l : List Int) (hl : l.length ≤ 4611686018427387904) : ∀ (d k i : Nat) (x : List Int), i + d = l.length → d < k → x.length = l.length → (∀ j, j < i → x[j]? = l[j]?) → laws_toIntS.l0 k l x (i : Int) = some l := by
  intro d
  induction d with
  | zero =>
    intro k i x hi hk hx he
    obtain ⟨k, rfl⟩ : ∃ m, k = m + 1 := ⟨k - 1, by omega⟩
    rw [laws_toIntS.l0, if_neg (by omega)]
    congr 1
    apply List.ext_getElem? 
    intro j
    by_cases hj : j < i
    · exact he j hj
    · rw [List.getElem?_eq_none (by omega), List.getElem?_eq_none (by omega)]
  | succ d ih =>
    intro k i x hi hk hx he
    obtain ⟨k, rfl⟩ : ∃ m, k = m + 1 := ⟨k - 1, by omega⟩
    rw [laws_toIntS.l0, if_pos (by omega), if_pos (by omega), if_pos (by omega), wsucc (by omega)]
    refine ih k (i + 1) _ (by omega) (by omega) (by simpa using hx) ?_
    intro j hj
    rw [rd_nat l i (by omega), Int.toNat_natCast, List.getElem?_set]
    by_cases e : i = j
    · subst e; simp [show i < x.length by omega, List.getElem?_eq_getElem (show i < l.length by omega)]
    · rw [if_neg e]; exact he j (by omega)
theorem toIntS_eq (l : List Int) (hl : l.length ≤ 17592186044416) (k : Nat) (hk : l.length < k) : laws_toIntS.f k l = some l := by
  unfold laws_toIntS.f
  rw [if_pos (by omega), if_pos (by omega)]
  exact toIntS_loop l (by omega) l.length k 0 _ (by omega) hk (by simp) (by intro j hj; omega)

theorem eqIntS_loop (l : List Int) (hl : l.length ≤ 4611686018427387904) : ∀ (d k i : Nat), i + d = l.length → d < k → laws_eqIntS.l0 k l l (i : Int) = some true := by
  intro d
  induction d with
  | zero =>
    intro k i hi hk
    obtain ⟨k, rfl⟩ : ∃ m, k = m + 1 := ⟨k - 1, by omega⟩
    rw [laws_eqIntS.l0, if_neg (by omega)]
  | succ d ih =>
    intro k i hi hk
    obtain ⟨k, rfl⟩ : ∃ m, k = m + 1 := ⟨k - 1, by omega⟩
    rw [laws_eqIntS.l0, if_pos (by omega), if_pos (by omega), if_pos (by omega), if_pos rfl, wsucc (by omega)]
    exact ih k (i + 1) (by omega) (by omega)
theorem eqIntS_refl (l : List Int) (hl : l.length ≤ 4611686018427387904) (k : Nat) (hk : l.length < k) : laws_eqIntS.f k l l = some true := by
  unfold laws_eqIntS.f
  rw [if_pos rfl]
  exact eqIntS_loop l hl l.length k 0 (by omega) hk

def marks (m : Int) (n : Nat) : List Int := (List.range n).map fun j : Nat => m + (j : Int)
theorem marks_len (m : Int) (n : Nat) : (marks m n).length = n := by simp [marks]
theorem markIntS_loop (m : Int) (n : Nat) (hm : -1 ≤ m ∧ m ≤ 2305843009213693952) (hn : n ≤ 2305843009213693952) : ∀ (d k i : Nat) (x : List Int), i + d = n → d < k → x.length = n → (∀ j : Nat, j < i → x[j]? = some (m + (j : Int))) → laws_markIntS.l0 k x (m + (i : Int)) (i : Int) = some (m + (n : Int), marks m n) := by
  intro d
  induction d with
  | zero =>
    intro k i x h1 hk hx he
    obtain ⟨k, rfl⟩ : ∃ m, k = m + 1 := ⟨k - 1, by omega⟩
    rw [laws_markIntS.l0, if_neg (by omega)]
    have e : x = marks m n := by
      apply List.ext_getElem?
      intro j
      by_cases hj : j < n
      · rw [he j (by omega)]; simp [marks, hj]
      · rw [List.getElem?_eq_none (by omega), List.getElem?_eq_none (by rw [marks_len]; omega)]
    rw [e, show i = n by omega]
  | succ d ih =>
    intro k i x h1 hk hx he
    obtain ⟨k, rfl⟩ : ∃ m, k = m + 1 := ⟨k - 1, by omega⟩
    rw [laws_markIntS.l0, if_pos (by omega), if_pos (by omega), wsucc (by omega), w64 (by omega) (by omega), show m + (i : Int) + 1 = m + ((i + 1 : Nat) : Int) by omega]
    refine ih k (i + 1) _ (by omega) (by omega) (by simpa using hx) ?_
    intro j hj
    rw [Int.toNat_natCast, List.getElem?_set]
    by_cases e : i = j
    · subst e; simp [show i < x.length by omega]
    · rw [if_neg e]; exact he j (by omega)
theorem markIntS_eq (l : List Int) (m : Int) (hm : -1 ≤ m ∧ m ≤ 2305843009213693952) (hn : l.length ≤ 2305843009213693952) (k : Nat) (hk : l.length < k) : laws_markIntS.f k l m = some (m + (l.length : Int), marks m l.length) := by
  unfold laws_markIntS.f
  have := markIntS_loop m l.length hm hn l.length k 0 l (by omega) hk rfl (by intro j hj; omega)
  simpa using this

theorem eqPlace_refl (a0 a1 a2 : Int) : laws_eqPlace.f a0 a1 a2 a0 a1 a2 = some true := by simp [laws_eqPlace.f]
theorem eqPlaceS_loop (l : List S60) (hl : l.length ≤ 4611686018427387904) : ∀ (d k i : Nat), i + d = l.length → d < k → laws_eqPlaceS.l0 k l l (i : Int) = some true := by
  intro d
  induction d with
  | zero =>
    intro k i hi hk
    obtain ⟨k, rfl⟩ : ∃ m, k = m + 1 := ⟨k - 1, by omega⟩
    rw [laws_eqPlaceS.l0, if_neg (by omega)]
  | succ d ih =>
    intro k i hi hk
    obtain ⟨k, rfl⟩ : ∃ m, k = m + 1 := ⟨k - 1, by omega⟩
    rw [laws_eqPlaceS.l0, if_pos (by omega), if_pos (by omega), if_pos (by omega), eqPlace_refl, Option.bind_some, if_pos rfl, wsucc (by omega)]
    exact ih k (i + 1) (by omega) (by omega)
theorem eqPlaceS_refl (l : List S60) (hl : l.length ≤ 4611686018427387904) (k : Nat) (hk : l.length < k) : laws_eqPlaceS.f k l l = some true := by
  unfold laws_eqPlaceS.f
  rw [if_pos rfl]
  exact eqPlaceS_loop l hl l.length k 0 (by omega) hk
def marksPlace (m : Int) (n : Nat) : List S60 := (List.range n).map fun j : Nat => ⟨(m + 3 * (j : Int)), (m + 3 * (j : Int)) + 1, (m + 3 * (j : Int)) + 2⟩
theorem marksPlace_len (m : Int) (n : Nat) : (marksPlace m n).length = n := by simp [marksPlace]
theorem rdPlace_set (x : List S60) (i : Nat) (v : S60) (h : i < x.length) : rd_T60 (x.set (i : Int).toNat v) (i : Int) = v := by
  simp [rd_T60, h]
theorem rdPlace_nat (l : List S60) (i : Nat) (h : i < l.length) : rd_T60 l (i : Int) = l[i] := by simp [rd_T60, List.getD_eq_getElem?_getD, h]
theorem markPlaceS_loop (m : Int) (n : Nat) (hm : -1 ≤ m ∧ m ≤ 1152921504606846976) (hn : n ≤ 140737488355328) : ∀ (d k i : Nat) (x : List S60), i + d = n → d < k → x.length = n → (∀ j : Nat, j < i → x[j]? = some ⟨(m + 3 * (j : Int)), (m + 3 * (j : Int)) + 1, (m + 3 * (j : Int)) + 2⟩) → laws_markPlaceS.l0 k x (m + 3 * (i : Int)) (i : Int) = some (m + 3 * (n : Int), marksPlace m n) := by
  intro d
  induction d with
  | zero =>
    intro k i x h1 hk hx he
    obtain ⟨k, rfl⟩ : ∃ m, k = m + 1 := ⟨k - 1, by omega⟩
    rw [laws_markPlaceS.l0, if_neg (by omega)]
    have e : x = marksPlace m n := by
      apply List.ext_getElem?
      intro j
      by_cases hj : j < n
      · rw [he j (by omega)]; simp [marksPlace, hj]
      · rw [List.getElem?_eq_none (by omega), List.getElem?_eq_none (by rw [marksPlace_len]; omega)]
    rw [e, show i = n by omega]
  | succ d ih =>
    intro k i x h1 hk hx he
    obtain ⟨k, rfl⟩ : ∃ m, k = m + 1 := ⟨k - 1, by omega⟩
    rw [laws_markPlaceS.l0, if_pos (by omega), if_pos (by omega)]
    simp only [Option.bind_some, rdPlace_set x i _ (show i < x.length by omega), List.set_set]
    rw [wsucc (by omega), w64 (x := m + 3 * (i : Int) + 1) (by omega) (by omega), w64 (x := m + 3 * (i : Int) + 1 + 1) (by omega) (by omega), w64 (x := m + 3 * (i : Int) + 1 + 1 + 1) (by omega) (by omega), show m + 3 * (i : Int) + 1 + 1 + 1 = m + 3 * ((i + 1 : Nat) : Int) by omega]
    refine ih k (i + 1) _ (by omega) (by omega) (by simpa using hx) ?_
    intro j hj
    rw [Int.toNat_natCast, List.getElem?_set]
    by_cases e : i = j
    · subst e; simp [show i < x.length by omega]; omega
    · rw [if_neg e]; exact he j (by omega)
theorem markPlaceS_eq (l : List S60) (m : Int) (hm : -1 ≤ m ∧ m ≤ 1152921504606846976) (hn : l.length ≤ 140737488355328) (k : Nat) (hk : l.length < k) : laws_markPlaceS.f k l m = some (m + 3 * (l.length : Int), marksPlace m l.length) := by
  unfold laws_markPlaceS.f
  have := markPlaceS_loop m l.length hm hn l.length k 0 l (by omega) hk rfl (by intro j hj; omega)
  simpa using this
theorem heldPlaceS_loop (m : Int) (n : Nat) (hm : -1 ≤ m ∧ m ≤ 1152921504606846976) (hn : n ≤ 140737488355328) : ∀ (d k i : Nat), i + d = n → d < k → laws_heldPlaceS.l0 k (marksPlace m n) (m + 3 * (i : Int)) (i : Int) = some (m + 3 * (n : Int)) := by
  intro d
  have hl := marksPlace_len m n
  induction d with
  | zero =>
    intro k i h1 hk
    obtain ⟨k, rfl⟩ : ∃ m, k = m + 1 := ⟨k - 1, by omega⟩
    rw [laws_heldPlaceS.l0, if_neg (by omega), show i = n by omega]
  | succ d ih =>
    intro k i h1 hk
    obtain ⟨k, rfl⟩ : ∃ m, k = m + 1 := ⟨k - 1, by omega⟩
    have e : (marksPlace m n)[i]'(by omega) = ⟨(m + 3 * (i : Int)), (m + 3 * (i : Int)) + 1, (m + 3 * (i : Int)) + 2⟩ := by simp [marksPlace]
    rw [laws_heldPlaceS.l0, if_pos (by omega), if_pos (by omega), rdPlace_nat (marksPlace m n) i (by omega), e, wsucc (by omega)]
    simp only []
    rw [w64 (x := m + 3 * (i : Int) + 1) (by omega) (by omega), w64 (x := m + 3 * (i : Int) + 1 + 1) (by omega) (by omega), w64 (x := m + 3 * (i : Int) + 1 + 1 + 1) (by omega) (by omega)]
    rw [if_pos (by first | trivial | rfl | omega), if_pos (by first | trivial | rfl | omega), if_pos (by first | trivial | rfl | omega), show m + 3 * (i : Int) + 1 + 1 + 1 = m + 3 * ((i + 1 : Nat) : Int) by omega]
    exact ih k (i + 1) (by omega) (by omega)
theorem heldPlaceS_eq (m : Int) (n : Nat) (hm : -1 ≤ m ∧ m ≤ 1152921504606846976) (hn : n ≤ 140737488355328) (k : Nat) (hk : n < k) : laws_heldPlaceS.f k (marksPlace m n) m = some (m + 3 * (n : Int)) := by
  unfold laws_heldPlaceS.f
  have := heldPlaceS_loop m n hm hn n k 0 (by omega) hk
  simpa using this

theorem markFrame_eq (p w h r : Int) (l : List S66) (m : Int) (hm : -1 ≤ m ∧ m ≤ 1152921504606846976) (hn : l.length ≤ 140737488355328) (k : Nat) (hk : l.length < k) : laws_markFrame.f k p w h r l m = some (m + 4 * (l.length : Int), marksComp m l.length) := by
  unfold laws_markFrame.f; rw [markCompS_eq l m hm hn k hk]; rfl
theorem FnExactOrderOf (p w h r : Int) (l : List S88) (hm : l.length ≤ maxLen) (cs : List Int) : ∃ k, laws_FnExactOrderOf.f k p w h r l cs = some true := by
  by_cases hcl : (cs.length : Int) > 1048576
  · exact ⟨0, by unfold laws_FnExactOrderOf.f; rw [if_pos hcl]⟩
  by_cases hs : 1048576 - (l.length : Int) < 0
  · refine ⟨0, ?_⟩
    unfold laws_FnExactOrderOf.f
    rw [if_neg hcl, szFrame_eq p w h r l hm, Option.bind_some, if_pos hs, if_pos (by omega)]
  have hml : (l.map toC).length = l.length := by simp
  obtain ⟨N, hN⟩ := specOrderOf_ends p w h r (l.map toC) (by omega) cs (by omega)
  obtain ⟨M, hM⟩ := implOrderOf_ends p w h r (l.map toC) (by omega) cs (by omega)
  obtain ⟨K, hK⟩ : ∃ K, K = N + M + l.length + cs.length + 67108864 + 300 := ⟨_, rfl⟩
  refine ⟨K + 1, ?_⟩
  unfold laws_FnExactOrderOf.f
  rw [if_neg hcl, szFrame_eq p w h r l hm, Option.bind_some, if_neg hs, if_neg hs]
  have e1 := toFrame_eq p w h r l (by omega)
  have hrl := orderR_len p w h r (l.map toC) cs
  obtain ⟨c, hc⟩ : ∃ c, c = l.map toC := ⟨_, rfl⟩
  rw [← hc] at e1 hN hM hrl hml
  obtain ⟨v, hv⟩ : ∃ v, v = orderR p w h r c cs := ⟨_, rfl⟩
  rw [← hv] at hN hM hrl
  have e4 := eqFrame_refl p w h r c (by omega)
  have e5 := toIntS_eq cs (by omega)
  have e6 := eqIntS_refl cs (by omega)
  have e7 := eqPlaceS_refl v (by omega)
  have e8 := markFrame_eq p w h r c 1 (by omega) (by omega)
  have e9 := markIntS_eq cs (1 + 4 * (c.length : Int)) (by omega) (by omega)
  have e10 := markPlaceS_eq v 1 (by omega) (by omega)
  have e11 := heldPlaceS_eq 1 v.length (by omega) (by omega)
  have g1 : ¬ (1 + 4 * (c.length : Int) + (cs.length : Int) < 0) := by omega
  have g2 : ¬ (1 + 3 * (v.length : Int) < 0) := by omega
  simp (disch := omega) only [e1, hN, hM, e4, e5, e6, e7, e8, e9, Option.bind_some, if_true, if_neg g1]
  rw [laws_FnExactOrderOf.j0]
  simp (disch := omega) only [e1, hM, e5, e7, e10, e11, Option.bind_some, if_true, if_neg g2, Bool.not_true, Bool.false_eq_true, if_false]

end Go.Proofs.Ytbhfimbikooccaa.Pure
