/- The pure statement of the law FnExactReadFrame, for every input that its guards let in. -/
import Derived.Test.YtbhfimbikooccaaPFnExactReadFramex8
import Derived.Test.YtbhfimbikooccaaWSized
-- The printed row names this word without its seat: the same fact under that name.
namespace Go.Proofs.PrintWords
theorem sized_ints {H : Type} {enc : TypeId × Value → H} {P : Program} {W : World} {base : Nat} {spare : Nat → Bool} {held : Bool} {t e : TypeId} {k : IntKind} {a : Option Addr} {len cap : Nat} {d : DataW H} {ps : List MemPlace} {ts : List TypeId} {ds : List (DataW H)} {j : Nat} (hsz : (DataW.weightsEach P ts ds).all (· ≤ reachBytes) = true) (ht : ts[j]? = some t) (hd : ds[j]? = some d) (hu : P.underlying t = some (.slice e)) (he : P.underlying e = some (.int k)) (hc : P.cellsOf e = 1) {B : Nat} (hB : P.bytesOf e = B) (h : DataW.Trod enc P W base spare held t (.slice a len cap) d ps) : len * B ≤ 140737488351232 := Go.Proofs.YtbhfimbikooccaaW.PrintWords.sized_ints hsz ht hd hu he hc hB h
end Go.Proofs.PrintWords
namespace Go.Proofs.Ytbhfimbikooccaa.Pure
open Go.RowKit Go.Proofs.Ytbhfimbikooccaa.PFnExactReadFrame Go.Proofs.YtbhfimbikooccaaW.PrintWords Go.Proofs.YtbhfimbikooccaaW.PrintLast Go.Proofs.YtbhfimbikooccaaW.PrintMore
set_option linter.unusedVariables false
set_option linter.unusedSimpArgs false
set_option maxRecDepth 4000

theorem w64 {x : Int} (h1 : -9223372036854775808 ≤ x) (h2 : x ≤ 9223372036854775807) : wrap64 x = x := by unfold wrap64; omega
theorem wsucc {i : Nat} (h : i ≤ 4611686018427387904) : wrap64 ((i : Int) + 1) = ((i + 1 : Nat) : Int) := by unfold wrap64; omega
theorem rd_nat (l : List Int) (i : Nat) (h : i < l.length) : rd l (i : Int) = l[i] := by simp [rd, List.getD_eq_getElem?_getD, h]
theorem drop_at {α : Type} (l : List α) (i : Nat) (h : i < l.length) : l.drop i = l[i] :: l.drop (i + 1) := List.drop_eq_getElem_cons h
theorem wf64 {x : Int} (h : (Lit.int .i64 x).wf = true) : -9223372036854775808 ≤ x ∧ x ≤ 9223372036854775807 := by
  simp [Lit.wf, IntKind.min, IntKind.max, IntKind.bits, IntKind.signed] at h; omega
theorem wfu8 {x : Int} (h : (Lit.int .u8 x).wf = true) : 0 ≤ x ∧ x ≤ 255 := by
  simp [Lit.wf, IntKind.min, IntKind.max, IntKind.bits, IntKind.signed] at h; omega

theorem between_eq (a lo hi : Int) : spec_l01Between.f a lo hi = some (decide (lo ≤ a ∧ a ≤ hi)) := by
  unfold spec_l01Between.f
  by_cases h : a ≥ lo
  · rw [if_pos h]; congr 1; simp; omega
  · rw [if_neg h]; congr 1; simp; omega

theorem within_eq (a lo hi : Int) : impl_within.f a lo hi = some (decide (lo ≤ a ∧ a ≤ hi)) := by
  unfold impl_within.f
  by_cases h : a ≥ lo
  · rw [if_pos h]; congr 1; simp; omega
  · rw [if_neg h]; congr 1; simp; omega

def compOk (x : S66) : Bool := decide (0 ≤ x.f0 ∧ x.f0 ≤ 255) && (decide (1 ≤ x.f1 ∧ x.f1 ≤ 4) && (decide (1 ≤ x.f2 ∧ x.f2 ≤ 4) && decide (0 ≤ x.f3 ∧ x.f3 ≤ 3)))
theorem compOk_iff {x : S66} : compOk x = true ↔ (0 ≤ x.f0 ∧ x.f0 ≤ 255) ∧ (1 ≤ x.f1 ∧ x.f1 ≤ 4) ∧ (1 ≤ x.f2 ∧ x.f2 ≤ 4) ∧ (0 ≤ x.f3 ∧ x.f3 ≤ 3) := by simp [compOk]
def frameL : List S66 → List S66 → Int → Bool
  | _, [], s => decide (s ≤ 10)
  | pre, x :: xs, s => compOk x && (!(pre.any fun y => y.f0 == x.f0) && frameL (pre ++ [x]) xs (s + x.f1 * x.f2))
def frameB (p w h r : Int) (l : List S66) : Bool := decide (p = 8 ∨ p = 12) && (decide (1 ≤ w ∧ w ≤ 256) && (decide (1 ≤ h ∧ h ≤ 256) && (decide (w * h ≤ 16384) && (decide (0 ≤ r ∧ r ≤ 255) && (decide (1 ≤ (l.length : Int) ∧ (l.length : Int) ≤ 4) && frameL [] l 0)))))
theorem rdC_nat (l : List S66) (i : Nat) (h : i < l.length) : rd_T66 l (i : Int) = l[i] := by simp [rd_T66, List.getD_eq_getElem?_getD, h]
theorem mul4 {a b : Int} (ha : 1 ≤ a ∧ a ≤ 4) (hb : 1 ≤ b ∧ b ≤ 4) : 1 ≤ a * b ∧ a * b ≤ 16 := by
  have h1 : (1 : Int) * 1 ≤ a * b := Int.mul_le_mul ha.1 hb.1 (by omega) (by omega)
  have h2 : a * b ≤ 4 * 4 := Int.mul_le_mul ha.2 hb.2 (by omega) (by omega)
  omega
theorem specFr_l1 (p w h r : Int) (l : List S66) (hl : l.length ≤ 4) (x : S66) (i : Nat) (hi : i ≤ l.length) (s : Int) : ∀ (d k j : Nat), j + d = i → spec_FrameOk.l1 (k + d + 1) s (i : Int) (j : Int) p w h r l x.f0 x.f1 x.f2 x.f3 = if ((l.take i).drop j).any (fun y => y.f0 == x.f0) then some false else spec_FrameOk.l0 k (wrap64 (s + wrap64 (x.f1 * x.f2))) (wrap64 ((i : Int) + 1)) p w h r l := by
  intro d
  induction d with
  | zero =>
    intro k j hj
    rw [spec_FrameOk.l1, if_neg (by omega), List.drop_eq_nil_of_le (by simp; omega)]; rfl
  | succ d ih =>
    intro k j hj
    have hjl : j < (l.take i).length := by simp; omega
    rw [show k + (d + 1) + 1 = (k + d + 1) + 1 by omega, spec_FrameOk.l1, if_pos (by omega), if_pos (by omega), if_pos (by omega), rdC_nat l j (by omega), drop_at (l.take i) j hjl, List.any_cons, List.getElem_take]
    by_cases he : l[j].f0 = x.f0
    · rw [if_pos he, if_pos (by simp [he])]
    · rw [if_neg he, wsucc (by omega), ih k (j + 1) (by omega)]
      have : (l[j].f0 == x.f0) = false := beq_eq_false_iff_ne.mpr he
      rw [this, Bool.false_or]
theorem specFr_l0 (p w h r : Int) (l : List S66) (hl : l.length ≤ 4) : ∀ (d k i : Nat) (s : Int), i + d = l.length → 10 * (d + 1) ≤ k → 0 ≤ s → s ≤ 16 * (i : Int) → spec_FrameOk.l0 k s (i : Int) p w h r l = some (frameL (l.take i) (l.drop i) s) := by
  intro d
  induction d with
  | zero =>
    intro k i s hi hk h0 hs
    obtain ⟨k, rfl⟩ : ∃ m, k = m + 1 := ⟨k - 1, by omega⟩
    rw [spec_FrameOk.l0, if_neg (by omega), List.drop_eq_nil_of_le (by omega), frameL]
  | succ d ih =>
    intro k i s hi hk h0 hs
    obtain ⟨k, rfl⟩ : ∃ m, k = m + 1 := ⟨k - 1, by omega⟩
    have hil : i < l.length := by omega
    have hstep : spec_FrameOk.l0 (k + 1) s (i : Int) p w h r l = spec_FrameOk.j2 k s (i : Int) (!compOk l[i]) p w h r l l[i].f0 l[i].f1 l[i].f2 l[i].f3 := by
      rw [spec_FrameOk.l0, if_pos (by omega), if_pos (by omega), rdC_nat l i hil, between_eq, between_eq, between_eq, between_eq]
      simp only [Option.bind_some, compOk]
      generalize decide (0 ≤ l[i].f0 ∧ l[i].f0 ≤ 255) = b1
      generalize decide (1 ≤ l[i].f1 ∧ l[i].f1 ≤ 4) = b2
      generalize decide (1 ≤ l[i].f2 ∧ l[i].f2 ≤ 4) = b3
      generalize decide (0 ≤ l[i].f3 ∧ l[i].f3 ≤ 3) = b4
      cases b1 <;> cases b2 <;> cases b3 <;> rfl 
    rw [hstep, drop_at l i hil, frameL]
    obtain ⟨k, rfl⟩ : ∃ m, k = m + 1 := ⟨k - 1, by omega⟩
    by_cases hc : compOk l[i] = true
    · obtain ⟨_, g1, g2, _⟩ := compOk_iff.1 hc
      have hm := mul4 g1 g2
      rw [hc, spec_FrameOk.j2, if_neg (by decide), Bool.true_and]
      obtain ⟨k, rfl⟩ : ∃ m, k = m + i + 1 := ⟨k - i - 1, by omega⟩
      have e := specFr_l1 p w h r l hl l[i] i (by omega) s i k 0 (by omega)
      rw [List.drop_zero] at e
      refine e.trans ?_
      rw [w64 (x := l[i].f1 * l[i].f2) (by omega) (by omega), w64 (by omega) (by omega), wsucc (by omega)]
      by_cases ha : (l.take i).any (fun y => y.f0 == l[i].f0) = true
      · rw [if_pos ha, ha]; rfl
      · have ha' : (l.take i).any (fun y => y.f0 == l[i].f0) = false := by simpa using ha
        rw [if_neg ha, ha', ih k (i + 1) _ (by omega) (by omega) (by omega) (by omega), List.take_succ_eq_append_getElem hil]; rfl
    · have hc : compOk l[i] = false := by simpa using hc
      rw [hc, spec_FrameOk.j2, if_pos (by rfl), Bool.false_and]
theorem implFr_l0 (p w h r : Int) (l : List S66) (hl : l.length ≤ 4) : ∀ (d k i : Nat) (s : Int), i + d = l.length → 10 * (d + 1) ≤ k → 0 ≤ s → s ≤ 16 * (i : Int) → impl_FrameOk.l0 k s l (l.length : Int) (i : Int) p w h r l = some (frameL (l.take i) (l.drop i) s) := by
  intro d
  induction d with
  | zero =>
    intro k i s hi hk h0 hs
    obtain ⟨k, rfl⟩ : ∃ m, k = m + 1 := ⟨k - 1, by omega⟩
    rw [impl_FrameOk.l0, if_neg (by omega), List.drop_eq_nil_of_le (by omega), frameL]
  | succ d ih =>
    intro k i s hi hk h0 hs
    obtain ⟨k, rfl⟩ : ∃ m, k = m + 1 := ⟨k - 1, by omega⟩
    have hil : i < l.length := by omega
    have hstep : impl_FrameOk.l0 (k + 1) s l (l.length : Int) (i : Int) p w h r l = impl_FrameOk.j2 k s (i : Int) l (l.length : Int) (i : Int) (!compOk l[i]) p w h r l l[i].f0 l[i].f1 l[i].f2 l[i].f3 := by
      rw [impl_FrameOk.l0, if_pos (by omega), if_pos (by omega), if_pos (by omega), rdC_nat l i hil, within_eq, within_eq, within_eq, within_eq]
      simp only [Option.bind_some, compOk]
      generalize decide (0 ≤ l[i].f0 ∧ l[i].f0 ≤ 255) = b1
      generalize decide (1 ≤ l[i].f1 ∧ l[i].f1 ≤ 4) = b2
      generalize decide (1 ≤ l[i].f2 ∧ l[i].f2 ≤ 4) = b3
      generalize decide (0 ≤ l[i].f3 ∧ l[i].f3 ≤ 3) = b4
      cases b1 <;> cases b2 <;> cases b3 <;> rfl
    rw [hstep, drop_at l i hil, frameL]
    obtain ⟨k, rfl⟩ : ∃ m, k = m + 1 := ⟨k - 1, by omega⟩
    by_cases hc : compOk l[i] = true
    · obtain ⟨_, g1, g2, _⟩ := compOk_iff.1 hc
      have hm := mul4 g1 g2
      rw [hc, impl_FrameOk.j2, if_neg (by decide), if_pos (by omega), if_pos (by omega), slices_Has54.f, Option.bind_some, Bool.true_and, Int.toNat_natCast, w64 (x := l[i].f1 * l[i].f2) (by omega) (by omega), w64 (by omega) (by omega), wsucc (by omega)]
      by_cases ha : (l.take i).any (fun y => y.f0 == l[i].f0) = true
      · rw [if_pos ha, ha]; rfl
      · have ha' : (l.take i).any (fun y => y.f0 == l[i].f0) = false := by simpa using ha
        rw [if_neg ha, ha', ih k (i + 1) _ (by omega) (by omega) (by omega) (by omega), List.take_succ_eq_append_getElem hil]; rfl
    · have hc : compOk l[i] = false := by simpa using hc
      rw [hc, impl_FrameOk.j2, if_pos (by rfl), Bool.false_and]
theorem mul256 {a b : Int} (ha : 1 ≤ a ∧ a ≤ 256) (hb : 1 ≤ b ∧ b ≤ 256) : 1 ≤ a * b ∧ a * b ≤ 65536 := by
  have h1 : (1 : Int) * 1 ≤ a * b := Int.mul_le_mul ha.1 hb.1 (by omega) (by omega)
  have h2 : a * b ≤ 256 * 256 := Int.mul_le_mul ha.2 hb.2 (by omega) (by omega)
  omega
theorem specFrame_eq (p w h r : Int) (l : List S66) (k : Nat) (hk : 100 ≤ k) : spec_FrameOk.f k p w h r l = some (frameB p w h r l) := by
  obtain ⟨k, rfl⟩ : ∃ m, k = m + 1 := ⟨k - 1, by omega⟩
  have jt : ∀ p : Int, spec_FrameOk.j0 (k + 1) true p w h r l = some false := by intro p; rw [spec_FrameOk.j0, if_pos rfl]
  have jf : l.length ≤ 4 → ∀ p : Int, spec_FrameOk.j0 (k + 1) false p w h r l = some (frameL [] l 0) := by
    intro hl p
    rw [spec_FrameOk.j0, if_neg (by decide)]
    exact specFr_l0 p w h r l hl l.length k 0 0 (by omega) (by omega) (by omega) (by omega)
  unfold spec_FrameOk.f frameB
  simp only [between_eq, Option.bind_some]
  by_cases c1 : 1 ≤ w ∧ w ≤ 256
  · by_cases c2 : 1 ≤ h ∧ h ≤ 256
    · have hm := mul256 c1 c2
      rw [w64 (x := w * h) (by omega) (by omega)]
      by_cases c3 : w * h > 16384
      · have c3' : ¬ w * h ≤ 16384 := by omega
        by_cases q8 : p = 8 <;> by_cases q12 : p = 12 <;> simp [c1, c2, c3, c3', jt, q8, q12]
      · have c3' : w * h ≤ 16384 := by omega
        by_cases c4 : 0 ≤ r ∧ r ≤ 255
        · by_cases c5 : 1 ≤ (l.length : Int) ∧ (l.length : Int) ≤ 4
          · have hj := jf (by omega)
            rw [decide_eq_true c1, decide_eq_true c2, decide_eq_true c3', decide_eq_true c4, decide_eq_true c5, if_neg c3]
            by_cases q8 : p = 8 <;> by_cases q12 : p = 12 <;> simp [jt, hj, q8, q12]
          · rw [decide_eq_true c1, decide_eq_true c2, decide_eq_true c3', decide_eq_true c4, decide_eq_false c5, if_neg c3]
            by_cases q8 : p = 8 <;> by_cases q12 : p = 12 <;> simp [jt, q8, q12]
        · rw [decide_eq_true c1, decide_eq_true c2, decide_eq_true c3', decide_eq_false c4, if_neg c3]
          by_cases q8 : p = 8 <;> by_cases q12 : p = 12 <;> simp [jt, q8, q12]
    · rw [decide_eq_true c1, decide_eq_false c2]
      by_cases q8 : p = 8 <;> by_cases q12 : p = 12 <;> simp [jt, q8, q12]
  · rw [decide_eq_false c1]
    by_cases q8 : p = 8 <;> by_cases q12 : p = 12 <;> simp [jt, q8, q12]
theorem implFrame_eq (p w h r : Int) (l : List S66) (k : Nat) (hk : 100 ≤ k) : impl_FrameOk.f k p w h r l = some (frameB p w h r l) := by
  obtain ⟨k, rfl⟩ : ∃ m, k = m + 1 := ⟨k - 1, by omega⟩
  have jt : ∀ p : Int, impl_FrameOk.j0 (k + 1) true p w h r l = some false := by intro p; rw [impl_FrameOk.j0, if_pos rfl]
  have jf : l.length ≤ 4 → ∀ p : Int, impl_FrameOk.j0 (k + 1) false p w h r l = some (frameL [] l 0) := by
    intro hl p
    rw [impl_FrameOk.j0, if_neg (by decide)]
    exact implFr_l0 p w h r l hl l.length k 0 0 (by omega) (by omega) (by omega) (by omega)
  unfold impl_FrameOk.f frameB
  simp only [within_eq, Option.bind_some]
  by_cases c1 : 1 ≤ w ∧ w ≤ 256
  · by_cases c2 : 1 ≤ h ∧ h ≤ 256
    · have hm := mul256 c1 c2
      rw [w64 (x := w * h) (by omega) (by omega)]
      by_cases c3 : w * h > 16384
      · have c3' : ¬ w * h ≤ 16384 := by omega
        by_cases q8 : p = 8 <;> by_cases q12 : p = 12 <;> simp [c1, c2, c3, c3', jt, q8, q12]
      · have c3' : w * h ≤ 16384 := by omega
        by_cases c4 : 0 ≤ r ∧ r ≤ 255
        · by_cases c5 : 1 ≤ (l.length : Int) ∧ (l.length : Int) ≤ 4
          · have hj := jf (by omega)
            rw [decide_eq_true c1, decide_eq_true c2, decide_eq_true c3', decide_eq_true c4, decide_eq_true c5, if_neg c3]
            by_cases q8 : p = 8 <;> by_cases q12 : p = 12 <;> simp [jt, hj, q8, q12]
          · rw [decide_eq_true c1, decide_eq_true c2, decide_eq_true c3', decide_eq_true c4, decide_eq_false c5, if_neg c3]
            by_cases q8 : p = 8 <;> by_cases q12 : p = 12 <;> simp [jt, q8, q12]
        · rw [decide_eq_true c1, decide_eq_true c2, decide_eq_true c3', decide_eq_false c4, if_neg c3]
          by_cases q8 : p = 8 <;> by_cases q12 : p = 12 <;> simp [jt, q8, q12]
    · rw [decide_eq_true c1, decide_eq_false c2]
      by_cases q8 : p = 8 <;> by_cases q12 : p = 12 <;> simp [jt, q8, q12]
  · rw [decide_eq_false c1]
    by_cases q8 : p = 8 <;> by_cases q12 : p = 12 <;> simp [jt, q8, q12]
theorem frameB_iff {p w h r : Int} {l : List S66} : frameB p w h r l = true ↔ (p = 8 ∨ p = 12) ∧ (1 ≤ w ∧ w ≤ 256) ∧ (1 ≤ h ∧ h ≤ 256) ∧ w * h ≤ 16384 ∧ (0 ≤ r ∧ r ≤ 255) ∧ (1 ≤ (l.length : Int) ∧ (l.length : Int) ≤ 4) ∧ frameL [] l 0 = true := by
  simp [frameB]

theorem tdw {x y : Int} (h0 : 0 ≤ x) (h1 : x ≤ 4611686018427387904) (hy : 0 < y) : wrap64 (Int.tdiv x y) = x / y := by
  rw [Int.tdiv_eq_ediv_of_nonneg h0]
  have a := Int.ediv_nonneg h0 (Int.le_of_lt hy)
  have b := Int.ediv_le_self y h0
  exact w64 (by omega) (by omega)
theorem div_bd {x y : Int} (h0 : 0 ≤ x) (hy : 0 < y) : 0 ≤ x / y ∧ x / y ≤ x := ⟨Int.ediv_nonneg h0 (Int.le_of_lt hy), Int.ediv_le_self y h0⟩

def BytesL (l : List Int) : Prop := l.length ≤ 1048576 ∧ ∀ x ∈ l, 0 ≤ x ∧ x ≤ 255
theorem rd_byte {l : List Int} (h : BytesL l) (i : Int) (h0 : 0 ≤ i) (h1 : i < (l.length : Int)) : 0 ≤ rd l i ∧ rd l i ≤ 255 := by
  obtain ⟨n, rfl⟩ := Int.eq_ofNat_of_zero_le h0
  have hn : n < l.length := by omega
  rw [rd_nat l n hn]
  exact h.2 _ (List.getElem_mem hn)
def CurOk (a s b : Int) : Prop := 0 ≤ a ∧ a ≤ b ∧ b ≤ 1152921504606846976 ∧ 0 ≤ s ∧ s ≤ 65521
theorem tmodw {x y : Int} (h0 : 0 ≤ x) (hy : 0 < y) : 0 ≤ Int.tmod x y ∧ Int.tmod x y < y := by
  rw [Int.tmod_eq_emod_of_nonneg h0]
  exact ⟨Int.emod_nonneg _ (by omega), Int.emod_lt_of_pos _ hy⟩
def compsOf : List Int → List S66
  | a :: b :: c :: t => ⟨a, b / 16, b % 16, c⟩ :: compsOf t
  | _ => []
def frameOrNone (p w h r : Int) (l : List S66) : Int × Int × Int × Int × (List S66) × Bool := if frameB p w h r l then (p, w, h, r, l, true) else (0, 0, 0, 0, [], false)
theorem specRF_loop {b : List Int} (hb : BytesL b) (n : Nat) (hn : b.length = 5 + 3 * n) (hn2 : n ≤ 255) (p w h r : Int) : ∀ (d k m : Nat) (a : List S66), m + d = n → d + 101 ≤ k → a.length = m → spec_ReadFrame.l0 k b ((5 + 3 * m : Nat) : Int) p w h r a = some (frameOrNone p w h r (a ++ compsOf (b.drop (5 + 3 * m)))) := by
  intro d
  induction d with
  | zero =>
    intro k m a hm hk ha
    obtain ⟨k, rfl⟩ : ∃ m, k = m + 1 := ⟨k - 1, by omega⟩
    rw [spec_ReadFrame.l0, if_neg (by omega), List.drop_eq_nil_of_le (by omega), compsOf, List.append_nil, specFrame_eq p w h r a k (by omega), Option.bind_some, frameOrNone]
    split <;> rfl
    all_goals simp
  | succ d ih =>
    intro k m a hm hk ha
    obtain ⟨k, rfl⟩ : ∃ m, k = m + 1 := ⟨k - 1, by omega⟩
    have w1 : wrap64 (((5 + 3 * m : Nat) : Int) + 1) = ((5 + 3 * m + 1 : Nat) : Int) := by rw [w64 (by omega) (by omega)]; omega
    have w2 : wrap64 (((5 + 3 * m : Nat) : Int) + 2) = ((5 + 3 * m + 2 : Nat) : Int) := by rw [w64 (by omega) (by omega)]; omega
    have w3 : wrap64 (((5 + 3 * m : Nat) : Int) + 3) = ((5 + 3 * (m + 1) : Nat) : Int) := by rw [w64 (by omega) (by omega)]; omega
    have r0 := rd_byte hb ((5 + 3 * m : Nat) : Int) (by omega) (by omega)
    have r1 := rd_byte hb ((5 + 3 * m + 1 : Nat) : Int) (by omega) (by omega)
    have r2 := rd_byte hb ((5 + 3 * m + 2 : Nat) : Int) (by omega) (by omega)
    rw [spec_ReadFrame.l0, if_pos (by omega), if_pos (by omega), w1, w2, w3, if_pos (by omega), if_pos (by omega), if_pos (by omega), if_pos (by omega), if_pos (by omega), w64 (x := rd b ((5 + 3 * m : Nat) : Int)) (by omega) (by omega), w64 (x := rd b ((5 + 3 * m + 1 : Nat) : Int)) (by omega) (by omega), w64 (x := rd b ((5 + 3 * m + 2 : Nat) : Int)) (by omega) (by omega), Int.tdiv_eq_ediv_of_nonneg r1.1, Int.tmod_eq_emod_of_nonneg r1.1, w64 (x := rd b ((5 + 3 * m + 1 : Nat) : Int) / 16) (by omega) (by omega), ih k (m + 1) _ (by omega) (by omega) (by simp; omega)]
    rw [drop_at b (5 + 3 * m) (by omega), drop_at b (5 + 3 * m + 1) (by omega), drop_at b (5 + 3 * m + 1 + 1) (by omega), compsOf, rd_nat b (5 + 3 * m) (by omega), rd_nat b (5 + 3 * m + 1) (by omega), rd_nat b (5 + 3 * m + 2) (by omega), List.append_assoc, show 5 + 3 * (m + 1) = 5 + 3 * m + 1 + 1 + 1 by omega]
    rfl
def readOk (b : List Int) : Bool := decide (5 ≤ b.length) && decide ((b.length : Int) = 5 + 3 * b.getD 4 0)
def readR (b : List Int) : Int × Int × Int × Int × (List S66) × Bool := if readOk b then frameOrNone (b.getD 0 0) (b.getD 1 0 + 1) (b.getD 2 0 + 1) (b.getD 3 0) (compsOf (b.drop 5)) else (0, 0, 0, 0, [], false)
theorem getD_byte {b : List Int} (hb : BytesL b) (i : Nat) (hi : i < b.length) : 0 ≤ b.getD i 0 ∧ b.getD i 0 ≤ 255 := by
  have := rd_byte hb (i : Int) (by omega) (by omega)
  simpa [rd] using this
theorem specRF_eq {b : List Int} (hb : BytesL b) (k : Nat) (hk : 400 ≤ k) : spec_ReadFrame.f k b = some (readR b) := by
  obtain ⟨k, rfl⟩ : ∃ m, k = m + 1 := ⟨k - 1, by omega⟩
  have e : ∀ i : Nat, rd b (i : Int) = b.getD i 0 := fun i => by simp [rd]
  have hbl := hb.1
  unfold spec_ReadFrame.f readR readOk
  by_cases h : (b.length : Int) < 5
  · rw [if_pos h, spec_ReadFrame.j0, if_pos rfl, decide_eq_false (by omega)]; rfl
  · rw [if_neg h, if_pos (by omega), decide_eq_true (by omega), Bool.true_and]
    have b0 := getD_byte hb 0 (by omega)
    have b1 := getD_byte hb 1 (by omega)
    have b2 := getD_byte hb 2 (by omega)
    have b3 := getD_byte hb 3 (by omega)
    have b4 := getD_byte hb 4 (by omega)
    have e0 : rd b 0 = b.getD 0 0 := e 0
    have e1 : rd b 1 = b.getD 1 0 := e 1
    have e2 : rd b 2 = b.getD 2 0 := e 2
    have e3 : rd b 3 = b.getD 3 0 := e 3
    have e4 : rd b 4 = b.getD 4 0 := e 4
    rw [e4, w64 (x := b.getD 4 0) (by omega) (by omega), w64 (x := 3 * b.getD 4 0) (by omega) (by omega), w64 (x := 5 + 3 * b.getD 4 0) (by omega) (by omega), spec_ReadFrame.j0]
    by_cases hl : (b.length : Int) = 5 + 3 * b.getD 4 0
    · rw [if_neg (by simp [hl]), if_pos (by omega), if_pos (by omega), if_pos (by omega), if_pos (by omega), e0, e1, e2, e3, w64 (x := b.getD 0 0) (by omega) (by omega), w64 (x := b.getD 1 0) (by omega) (by omega), w64 (x := b.getD 1 0 + 1) (by omega) (by omega), w64 (x := b.getD 2 0) (by omega) (by omega), w64 (x := b.getD 2 0 + 1) (by omega) (by omega), w64 (x := b.getD 3 0) (by omega) (by omega), decide_eq_true hl, if_pos rfl]
      have := specRF_loop hb (b.getD 4 0).toNat (by omega) (by omega) (b.getD 0 0) (b.getD 1 0 + 1) (b.getD 2 0 + 1) (b.getD 3 0) (b.getD 4 0).toNat k 0 [] (by omega) (by omega) rfl
      simpa using this
    · rw [if_pos (by simpa using hl), decide_eq_false hl]; rfl
theorem implRF_loop {b : List Int} (hb : BytesL b) (n : Nat) (hn : b.length = 5 + 3 * n) (hn2 : n ≤ 255) (p w h r : Int) : ∀ (d k m : Nat) (a : List S66), m + d = n → d + 101 ≤ k → a.length = m → impl_ReadFrame.l0 k b ((5 + 3 * m : Nat) : Int) p w h r a = some (frameOrNone p w h r (a ++ compsOf (b.drop (5 + 3 * m)))) := by
  intro d
  induction d with
  | zero =>
    intro k m a hm hk ha
    obtain ⟨k, rfl⟩ : ∃ m, k = m + 1 := ⟨k - 1, by omega⟩
    rw [impl_ReadFrame.l0, if_neg (by omega), List.drop_eq_nil_of_le (by omega), compsOf, List.append_nil, implFrame_eq p w h r a k (by omega), Option.bind_some, frameOrNone]
    split <;> rfl
    all_goals simp
  | succ d ih =>
    intro k m a hm hk ha
    obtain ⟨k, rfl⟩ : ∃ m, k = m + 1 := ⟨k - 1, by omega⟩
    have w1 : wrap64 (((5 + 3 * m : Nat) : Int) + 1) = ((5 + 3 * m + 1 : Nat) : Int) := by rw [w64 (by omega) (by omega)]; omega
    have w2 : wrap64 (((5 + 3 * m : Nat) : Int) + 2) = ((5 + 3 * m + 2 : Nat) : Int) := by rw [w64 (by omega) (by omega)]; omega
    have w3 : wrap64 (((5 + 3 * m : Nat) : Int) + 3) = ((5 + 3 * (m + 1) : Nat) : Int) := by rw [w64 (by omega) (by omega)]; omega
    have r0 := rd_byte hb ((5 + 3 * m : Nat) : Int) (by omega) (by omega)
    have r1 := rd_byte hb ((5 + 3 * m + 1 : Nat) : Int) (by omega) (by omega)
    have r2 := rd_byte hb ((5 + 3 * m + 2 : Nat) : Int) (by omega) (by omega)
    rw [impl_ReadFrame.l0, if_pos (by omega), if_pos (by omega), w1, w2, w3, if_pos (by omega), if_pos (by omega), if_pos (by omega), if_pos (by omega), if_pos (by omega), w64 (x := rd b ((5 + 3 * m : Nat) : Int)) (by omega) (by omega), w64 (x := rd b ((5 + 3 * m + 1 : Nat) : Int)) (by omega) (by omega), w64 (x := rd b ((5 + 3 * m + 2 : Nat) : Int)) (by omega) (by omega), Int.tdiv_eq_ediv_of_nonneg r1.1, Int.tmod_eq_emod_of_nonneg r1.1, w64 (x := rd b ((5 + 3 * m + 1 : Nat) : Int) / 16) (by omega) (by omega), ih k (m + 1) _ (by omega) (by omega) (by simp; omega)]
    rw [drop_at b (5 + 3 * m) (by omega), drop_at b (5 + 3 * m + 1) (by omega), drop_at b (5 + 3 * m + 1 + 1) (by omega), compsOf, rd_nat b (5 + 3 * m) (by omega), rd_nat b (5 + 3 * m + 1) (by omega), rd_nat b (5 + 3 * m + 2) (by omega), List.append_assoc, show 5 + 3 * (m + 1) = 5 + 3 * m + 1 + 1 + 1 by omega]
    rfl
theorem implRF_eq {b : List Int} (hb : BytesL b) (k : Nat) (hk : 400 ≤ k) : impl_ReadFrame.f k b = some (readR b) := by
  obtain ⟨k, rfl⟩ : ∃ m, k = m + 1 := ⟨k - 1, by omega⟩
  have e : ∀ i : Nat, rd b (i : Int) = b.getD i 0 := fun i => by simp [rd]
  have hbl := hb.1
  unfold impl_ReadFrame.f readR readOk
  by_cases h : (b.length : Int) < 5
  · rw [if_pos h, impl_ReadFrame.j0, if_pos rfl, decide_eq_false (by omega)]; rfl
  · rw [if_neg h, if_pos (by omega), decide_eq_true (by omega), Bool.true_and]
    have b0 := getD_byte hb 0 (by omega)
    have b1 := getD_byte hb 1 (by omega)
    have b2 := getD_byte hb 2 (by omega)
    have b3 := getD_byte hb 3 (by omega)
    have b4 := getD_byte hb 4 (by omega)
    have e0 : rd b 0 = b.getD 0 0 := e 0
    have e1 : rd b 1 = b.getD 1 0 := e 1
    have e2 : rd b 2 = b.getD 2 0 := e 2
    have e3 : rd b 3 = b.getD 3 0 := e 3
    have e4 : rd b 4 = b.getD 4 0 := e 4
    rw [e4, w64 (x := b.getD 4 0) (by omega) (by omega), w64 (x := 3 * b.getD 4 0) (by omega) (by omega), w64 (x := 5 + 3 * b.getD 4 0) (by omega) (by omega), impl_ReadFrame.j0]
    by_cases hl : (b.length : Int) = 5 + 3 * b.getD 4 0
    · rw [if_neg (by simp [hl]), if_pos (by omega), if_pos (by omega), if_pos (by omega), if_pos (by omega), e0, e1, e2, e3, w64 (x := b.getD 0 0) (by omega) (by omega), w64 (x := b.getD 1 0) (by omega) (by omega), w64 (x := b.getD 1 0 + 1) (by omega) (by omega), w64 (x := b.getD 2 0) (by omega) (by omega), w64 (x := b.getD 2 0 + 1) (by omega) (by omega), w64 (x := b.getD 3 0) (by omega) (by omega), decide_eq_true hl, if_pos rfl]
      have := implRF_loop hb (b.getD 4 0).toNat (by omega) (by omega) (b.getD 0 0) (b.getD 1 0 + 1) (b.getD 2 0 + 1) (b.getD 3 0) (b.getD 4 0).toNat k 0 [] (by omega) (by omega) rfl
      simpa using this
    · rw [if_pos (by simpa using hl), decide_eq_false hl]; rfl

theorem eqComp_refl (a0 a1 a2 a3 : Int) : laws_eqComp.f a0 a1 a2 a3 a0 a1 a2 a3 = some true := by simp [laws_eqComp.f]
theorem eqCompS_loop (l : List S66) (hl : l.length ≤ 4611686018427387904) : ∀ (d k i : Nat), i + d = l.length → d < k → laws_eqCompS.l0 k l l (i : Int) = some true := by
  intro d
  induction d with
  | zero =>
    intro k i hi hk
    obtain ⟨k, rfl⟩ : ∃ m, k = m + 1 := ⟨k - 1, by omega⟩
    rw [laws_eqCompS.l0, if_neg (by omega)]
  | succ d ih =>
    intro k i hi hk
    obtain ⟨k, rfl⟩ : ∃ m, k = m + 1 := ⟨k - 1, by omega⟩
    rw [laws_eqCompS.l0, if_pos (by omega), if_pos (by omega), if_pos (by omega), eqComp_refl, Option.bind_some, if_pos rfl, wsucc (by omega)]
    exact ih k (i + 1) (by omega) (by omega)
theorem eqCompS_refl (l : List S66) (hl : l.length ≤ 4611686018427387904) (k : Nat) (hk : l.length < k) : laws_eqCompS.f k l l = some true := by
  unfold laws_eqCompS.f
  rw [if_pos rfl]
  exact eqCompS_loop l hl l.length k 0 (by omega) hk
def marksComp (m : Int) (n : Nat) : List S66 := (List.range n).map fun j : Nat => ⟨(m + 4 * (j : Int)), (m + 4 * (j : Int)) + 1, (m + 4 * (j : Int)) + 2, (m + 4 * (j : Int)) + 3⟩
theorem marksComp_len (m : Int) (n : Nat) : (marksComp m n).length = n := by simp [marksComp]
theorem rdComp_set (x : List S66) (i : Nat) (v : S66) (h : i < x.length) : rd_T66 (x.set (i : Int).toNat v) (i : Int) = v := by
  simp [rd_T66, h]
theorem rdComp_nat (l : List S66) (i : Nat) (h : i < l.length) : rd_T66 l (i : Int) = l[i] := by simp [rd_T66, List.getD_eq_getElem?_getD, h]
theorem markCompS_loop (m : Int) (n : Nat) (hm : -1 ≤ m ∧ m ≤ 1152921504606846976) (hn : n ≤ 140737488355328) : ∀ (d k i : Nat) (x : List S66), i + d = n → d < k → x.length = n → (∀ j : Nat, j < i → x[j]? = some ⟨(m + 4 * (j : Int)), (m + 4 * (j : Int)) + 1, (m + 4 * (j : Int)) + 2, (m + 4 * (j : Int)) + 3⟩) → laws_markCompS.l0 k x (m + 4 * (i : Int)) (i : Int) = some (m + 4 * (n : Int), marksComp m n) := by
  intro d
  induction d with
  | zero =>
    intro k i x h1 hk hx he
    obtain ⟨k, rfl⟩ : ∃ m, k = m + 1 := ⟨k - 1, by omega⟩
    rw [laws_markCompS.l0, if_neg (by omega)]
    have e : x = marksComp m n := by
      apply List.ext_getElem?
      intro j
      by_cases hj : j < n
      · rw [he j (by omega)]; simp [marksComp, hj]
      · rw [List.getElem?_eq_none (by omega), List.getElem?_eq_none (by rw [marksComp_len]; omega)]
    rw [e, show i = n by omega]
  | succ d ih =>
    intro k i x h1 hk hx he
    obtain ⟨k, rfl⟩ : ∃ m, k = m + 1 := ⟨k - 1, by omega⟩
    rw [laws_markCompS.l0, if_pos (by omega), if_pos (by omega)]
    simp only [Option.bind_some, rdComp_set x i _ (show i < x.length by omega), List.set_set]
    rw [wsucc (by omega), w64 (x := m + 4 * (i : Int) + 1) (by omega) (by omega), w64 (x := m + 4 * (i : Int) + 1 + 1) (by omega) (by omega), w64 (x := m + 4 * (i : Int) + 1 + 1 + 1) (by omega) (by omega), w64 (x := m + 4 * (i : Int) + 1 + 1 + 1 + 1) (by omega) (by omega), show m + 4 * (i : Int) + 1 + 1 + 1 + 1 = m + 4 * ((i + 1 : Nat) : Int) by omega]
    refine ih k (i + 1) _ (by omega) (by omega) (by simpa using hx) ?_
    intro j hj
    rw [Int.toNat_natCast, List.getElem?_set]
    by_cases e : i = j
    · subst e; simp [show i < x.length by omega]; omega
    · rw [if_neg e]; exact he j (by omega)
theorem markCompS_eq (l : List S66) (m : Int) (hm : -1 ≤ m ∧ m ≤ 1152921504606846976) (hn : l.length ≤ 140737488355328) (k : Nat) (hk : l.length < k) : laws_markCompS.f k l m = some (m + 4 * (l.length : Int), marksComp m l.length) := by
  unfold laws_markCompS.f
  have := markCompS_loop m l.length hm hn l.length k 0 l (by omega) hk rfl (by intro j hj; omega)
  simpa using this
theorem heldCompS_loop (m : Int) (n : Nat) (hm : -1 ≤ m ∧ m ≤ 1152921504606846976) (hn : n ≤ 140737488355328) : ∀ (d k i : Nat), i + d = n → d < k → laws_heldCompS.l0 k (marksComp m n) (m + 4 * (i : Int)) (i : Int) = some (m + 4 * (n : Int)) := by
  intro d
  have hl := marksComp_len m n
  induction d with
  | zero =>
    intro k i h1 hk
    obtain ⟨k, rfl⟩ : ∃ m, k = m + 1 := ⟨k - 1, by omega⟩
    rw [laws_heldCompS.l0, if_neg (by omega), show i = n by omega]
  | succ d ih =>
    intro k i h1 hk
    obtain ⟨k, rfl⟩ : ∃ m, k = m + 1 := ⟨k - 1, by omega⟩
    have e : (marksComp m n)[i]'(by omega) = ⟨(m + 4 * (i : Int)), (m + 4 * (i : Int)) + 1, (m + 4 * (i : Int)) + 2, (m + 4 * (i : Int)) + 3⟩ := by simp [marksComp]
    rw [laws_heldCompS.l0, if_pos (by omega), if_pos (by omega), rdComp_nat (marksComp m n) i (by omega), e, wsucc (by omega)]
    simp only []
    rw [w64 (x := m + 4 * (i : Int) + 1) (by omega) (by omega), w64 (x := m + 4 * (i : Int) + 1 + 1) (by omega) (by omega), w64 (x := m + 4 * (i : Int) + 1 + 1 + 1) (by omega) (by omega), w64 (x := m + 4 * (i : Int) + 1 + 1 + 1 + 1) (by omega) (by omega)]
    rw [if_pos (by first | trivial | rfl | omega), if_pos (by first | trivial | rfl | omega), if_pos (by first | trivial | rfl | omega), if_pos (by first | trivial | rfl | omega), show m + 4 * (i : Int) + 1 + 1 + 1 + 1 = m + 4 * ((i + 1 : Nat) : Int) by omega]
    exact ih k (i + 1) (by omega) (by omega)
theorem heldCompS_eq (m : Int) (n : Nat) (hm : -1 ≤ m ∧ m ≤ 1152921504606846976) (hn : n ≤ 140737488355328) (k : Nat) (hk : n < k) : laws_heldCompS.f k (marksComp m n) m = some (m + 4 * (n : Int)) := by
  unfold laws_heldCompS.f
  have := heldCompS_loop m n hm hn n k 0 (by omega) hk
  simpa using this

theorem markFrame_eq (p w h r : Int) (l : List S66) (m : Int) (hm : -1 ≤ m ∧ m ≤ 1152921504606846976) (hn : l.length ≤ 140737488355328) (k : Nat) (hk : l.length < k) : laws_markFrame.f k p w h r l m = some (m + 4 * (l.length : Int), marksComp m l.length) := by
  unfold laws_markFrame.f; rw [markCompS_eq l m hm hn k hk]; rfl
theorem heldFrame_eq (p w h r : Int) (m : Int) (n : Nat) (hm : -1 ≤ m ∧ m ≤ 1152921504606846976) (hn : n ≤ 140737488355328) (k : Nat) (hk : n < k) : laws_heldFrame.f k p w h r (marksComp m n) m = some (m + 4 * (n : Int)) := by
  unfold laws_heldFrame.f; rw [heldCompS_eq m n hm hn k hk]; simp; try omega

theorem eqFrame_refl (p w h r : Int) (l : List S66) (hl : l.length ≤ 1048576) (k : Nat) (hk : l.length < k) : laws_eqFrame.f k p w h r l p w h r l = some true := by
  unfold laws_eqFrame.f
  rw [if_pos rfl, if_pos rfl, if_pos rfl, if_pos rfl, eqCompS_refl l (by omega) k hk]; rfl

theorem toByteS_loop (l : List Int) (hl : l.length ≤ 4611686018427387904) : ∀ (d k i : Nat) (x : List Int), i + d = l.length → d < k → x.length = l.length → (∀ j, j < i → x[j]? = l[j]?) → laws_toByteS.l0 k l x (i : Int) = some l := by
  intro d
  induction d with
  | zero =>
    intro k i x hi hk hx he
    obtain ⟨k, rfl⟩ : ∃ m, k = m + 1 := ⟨k - 1, by omega⟩
    rw [laws_toByteS.l0, if_neg (by omega)]
    congr 1
    apply List.ext_getElem? 
    intro j
    by_cases hj : j < i
    · exact he j hj
    · rw [List.getElem?_eq_none (by omega), List.getElem?_eq_none (by omega)]
  | succ d ih =>
    intro k i x hi hk hx he
    obtain ⟨k, rfl⟩ : ∃ m, k = m + 1 := ⟨k - 1, by omega⟩
    rw [laws_toByteS.l0, if_pos (by omega), if_pos (by omega), if_pos (by omega), wsucc (by omega)]
    refine ih k (i + 1) _ (by omega) (by omega) (by simpa using hx) ?_
    intro j hj
    rw [rd_nat l i (by omega), Int.toNat_natCast, List.getElem?_set]
    by_cases e : i = j
    · subst e; simp [show i < x.length by omega, List.getElem?_eq_getElem (show i < l.length by omega)]
    · rw [if_neg e]; exact he j (by omega)
theorem toByteS_eq (l : List Int) (hl : l.length ≤ 281474976710656) (k : Nat) (hk : l.length < k) : laws_toByteS.f k l = some l := by
  unfold laws_toByteS.f
  rw [if_pos (by omega), if_pos (by omega)]
  exact toByteS_loop l (by omega) l.length k 0 _ (by omega) hk (by simp) (by intro j hj; omega)

theorem eqByteS_loop (l : List Int) (hl : l.length ≤ 4611686018427387904) : ∀ (d k i : Nat), i + d = l.length → d < k → laws_eqByteS.l0 k l l (i : Int) = some true := by
  intro d
  induction d with
  | zero =>
    intro k i hi hk
    obtain ⟨k, rfl⟩ : ∃ m, k = m + 1 := ⟨k - 1, by omega⟩
    rw [laws_eqByteS.l0, if_neg (by omega)]
  | succ d ih =>
    intro k i hi hk
    obtain ⟨k, rfl⟩ : ∃ m, k = m + 1 := ⟨k - 1, by omega⟩
    rw [laws_eqByteS.l0, if_pos (by omega), if_pos (by omega), if_pos (by omega), if_pos rfl, wsucc (by omega)]
    exact ih k (i + 1) (by omega) (by omega)
theorem eqByteS_refl (l : List Int) (hl : l.length ≤ 4611686018427387904) (k : Nat) (hk : l.length < k) : laws_eqByteS.f k l l = some true := by
  unfold laws_eqByteS.f
  rw [if_pos rfl]
  exact eqByteS_loop l hl l.length k 0 (by omega) hk

def bmarks (n : Nat) : List Int := (List.range n).map fun j : Nat => ((j : Int) + 1) % 256
theorem bmarks_len (n : Nat) : (bmarks n).length = n := by simp [bmarks]
theorem markByteS_loop (n : Nat) (hn : n ≤ 4611686018427387904) : ∀ (d k i : Nat) (x : List Int), i + d = n → d < k → x.length = n → (∀ j, j < i → x[j]? = some (((j : Int) + 1) % 256)) → laws_markByteS.l0 k x ((i : Int) + 1) (i : Int) = some ((n : Int) + 1, bmarks n) := by
  intro d
  induction d with
  | zero =>
    intro k i x h1 hk hx he
    obtain ⟨k, rfl⟩ : ∃ m, k = m + 1 := ⟨k - 1, by omega⟩
    rw [laws_markByteS.l0, if_neg (by omega)]
    have e : x = bmarks n := by
      apply List.ext_getElem?
      intro j
      by_cases hj : j < n
      · rw [he j (by omega)]; simp [bmarks, hj]
      · rw [List.getElem?_eq_none (by omega), List.getElem?_eq_none (by rw [bmarks_len]; omega)]
    rw [e, show i = n by omega]
  | succ d ih =>
    intro k i x h1 hk hx he
    obtain ⟨k, rfl⟩ : ∃ m, k = m + 1 := ⟨k - 1, by omega⟩
    rw [laws_markByteS.l0, if_pos (by omega), if_pos (by omega), wsucc (by omega), w64 (by omega) (by omega), show (i : Int) + 1 + 1 = ((i + 1 : Nat) : Int) + 1 by omega]
    refine ih k (i + 1) _ (by omega) (by omega) (by simpa using hx) ?_
    intro j hj
    rw [Int.toNat_natCast, List.getElem?_set]
    by_cases e : i = j
    · subst e; simp [show i < x.length by omega]
    · rw [if_neg e]; exact he j (by omega)
theorem markByteS_eq (l : List Int) (hn : l.length ≤ 4611686018427387904) (k : Nat) (hk : l.length < k) : laws_markByteS.f k l 1 = some ((l.length : Int) + 1, bmarks l.length) := by
  unfold laws_markByteS.f
  exact markByteS_loop l.length hn l.length k 0 l (by omega) hk rfl (by intro j hj; omega)
theorem readR_len {b : List Int} (hb : BytesL b) : (readR b).2.2.2.2.1.length ≤ 4 := by
  unfold readR frameOrNone
  split
  · split
    · rename_i h
      have := (frameB_iff.1 h).2.2.2.2.2.1
      simp only; omega
    · simp
  · simp
theorem FnExactReadFrame : laws_FnExactReadFrame.Pure := by
  intro l hm hr hw
  obtain ⟨K, hK⟩ : ∃ K, K = l.length + 1000 := ⟨_, rfl⟩
  refine ⟨K + 3, ?_⟩
  unfold laws_FnExactReadFrame.f
  by_cases h : (l.length : Int) > 1048576
  · rw [if_pos h]
  rw [if_neg h]
  have hb : BytesL l := ⟨by omega, fun x hx => wfu8 (hw x hx)⟩
  have e1 := toByteS_eq l (by omega)
  have e2 := fun k hk => specRF_eq hb k hk
  have e3 := fun k hk => implRF_eq hb k hk
  have hrl := readR_len hb
  obtain ⟨p, w, hh, r, c, o, hv⟩ : ∃ p w hh r c o, readR l = (p, w, hh, r, c, o) := ⟨_, _, _, _, _, _, rfl⟩
  rw [hv] at e2 e3 hrl
  simp only at hrl
  have e4 := eqByteS_refl l (by omega)
  have e5 := eqFrame_refl p w hh r c (by omega)
  have e6 := markByteS_eq l (by omega)
  have e7 := markFrame_eq p w hh r c 1 (by omega) (by omega)
  have e8 := heldFrame_eq p w hh r 1 c.length (by omega) (by omega)
  have g1 : ¬ ((l.length : Int) + 1 < 0) := by omega
  have g2 : ¬ (1 + 4 * (c.length : Int) < 0) := by omega
  simp (disch := omega) only [e1, e2, e3, e5, Option.bind_some, if_true, bne_self_eq_false]
  rw [laws_FnExactReadFrame.j0]
  simp (disch := omega) only [e1, e4, e5, e6, Option.bind_some, if_true, if_neg g1, Bool.false_eq_true, if_false, bne_self_eq_false]
  rw [laws_FnExactReadFrame.j1]
  simp (disch := omega) only [e1, e3, e5, e7, e8, Option.bind_some, if_true, if_neg g2, Bool.false_eq_true, if_false, bne_self_eq_false]
  rw [laws_FnExactReadFrame.j2]
  simp (disch := omega) only [e8, Option.bind_some, if_true, if_neg g2, Bool.false_eq_true, if_false]

end Go.Proofs.Ytbhfimbikooccaa.Pure
