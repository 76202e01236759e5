/- The pure statement of the law FnFrameBack, for every input that its guards let in. -/
import Derived.Test.YtbhfimbikooccaaPFnFrameBackx12
import Derived.Test.YtbhfimbikooccaaVFnFrameBack
-- The printed row names this word without its seat: the same fact under that name.
namespace Go.Proofs.PrintWords
theorem sized_ints {H : Type} {enc : TypeId × Value → H} {P : Program} {W : World} {base : Nat} {spare : Nat → Bool} {held : Bool} {t e : TypeId} {k : IntKind} {a : Option Addr} {len cap : Nat} {d : DataW H} {ps : List MemPlace} {ts : List TypeId} {ds : List (DataW H)} {j : Nat} (hsz : (DataW.weightsEach P ts ds).all (· ≤ reachBytes) = true) (ht : ts[j]? = some t) (hd : ds[j]? = some d) (hu : P.underlying t = some (.slice e)) (he : P.underlying e = some (.int k)) (hc : P.cellsOf e = 1) {B : Nat} (hB : P.bytesOf e = B) (h : DataW.Trod enc P W base spare held t (.slice a len cap) d ps) : len * B ≤ 140737488351232 := Go.Proofs.YtbhfimbikooccaaW.PrintWords.sized_ints hsz ht hd hu he hc hB h
end Go.Proofs.PrintWords
namespace Go.Proofs.Ytbhfimbikooccaa.Pure
open Go.RowKit Go.Proofs.Ytbhfimbikooccaa.PFnFrameBack Go.Proofs.YtbhfimbikooccaaW.PrintWords Go.Proofs.YtbhfimbikooccaaW.PrintLast Go.Proofs.YtbhfimbikooccaaW.PrintMore
set_option linter.unusedVariables false
set_option linter.unusedSimpArgs false
set_option maxRecDepth 4000

theorem w64 {x : Int} (h1 : -9223372036854775808 ≤ x) (h2 : x ≤ 9223372036854775807) : wrap64 x = x := by unfold wrap64; omega
theorem wsucc {i : Nat} (h : i ≤ 4611686018427387904) : wrap64 ((i : Int) + 1) = ((i + 1 : Nat) : Int) := by unfold wrap64; omega
theorem rd_nat (l : List Int) (i : Nat) (h : i < l.length) : rd l (i : Int) = l[i] := by simp [rd, List.getD_eq_getElem?_getD, h]
theorem drop_at {α : Type} (l : List α) (i : Nat) (h : i < l.length) : l.drop i = l[i] :: l.drop (i + 1) := List.drop_eq_getElem_cons h
theorem wf64 {x : Int} (h : (Lit.int .i64 x).wf = true) : -9223372036854775808 ≤ x ∧ x ≤ 9223372036854775807 := by
  simp [Lit.wf, IntKind.min, IntKind.max, IntKind.bits, IntKind.signed] at h; omega
theorem wfu8 {x : Int} (h : (Lit.int .u8 x).wf = true) : 0 ≤ x ∧ x ≤ 255 := by
  simp [Lit.wf, IntKind.min, IntKind.max, IntKind.bits, IntKind.signed] at h; omega

theorem between_eq (a lo hi : Int) : spec_l01Between.f a lo hi = some (decide (lo ≤ a ∧ a ≤ hi)) := by
  unfold spec_l01Between.f
  by_cases h : a ≥ lo
  · rw [if_pos h]; congr 1; simp; omega
  · rw [if_neg h]; congr 1; simp; omega

theorem within_eq (a lo hi : Int) : impl_within.f a lo hi = some (decide (lo ≤ a ∧ a ≤ hi)) := by
  unfold impl_within.f
  by_cases h : a ≥ lo
  · rw [if_pos h]; congr 1; simp; omega
  · rw [if_neg h]; congr 1; simp; omega

def compOk (x : S66) : Bool := decide (0 ≤ x.f0 ∧ x.f0 ≤ 255) && (decide (1 ≤ x.f1 ∧ x.f1 ≤ 4) && (decide (1 ≤ x.f2 ∧ x.f2 ≤ 4) && decide (0 ≤ x.f3 ∧ x.f3 ≤ 3)))
theorem compOk_iff {x : S66} : compOk x = true ↔ (0 ≤ x.f0 ∧ x.f0 ≤ 255) ∧ (1 ≤ x.f1 ∧ x.f1 ≤ 4) ∧ (1 ≤ x.f2 ∧ x.f2 ≤ 4) ∧ (0 ≤ x.f3 ∧ x.f3 ≤ 3) := by simp [compOk]
def frameL : List S66 → List S66 → Int → Bool
  | _, [], s => decide (s ≤ 10)
  | pre, x :: xs, s => compOk x && (!(pre.any fun y => y.f0 == x.f0) && frameL (pre ++ [x]) xs (s + x.f1 * x.f2))
def frameB (p w h r : Int) (l : List S66) : Bool := decide (p = 8 ∨ p = 12) && (decide (1 ≤ w ∧ w ≤ 256) && (decide (1 ≤ h ∧ h ≤ 256) && (decide (w * h ≤ 16384) && (decide (0 ≤ r ∧ r ≤ 255) && (decide (1 ≤ (l.length : Int) ∧ (l.length : Int) ≤ 4) && frameL [] l 0)))))
theorem rdC_nat (l : List S66) (i : Nat) (h : i < l.length) : rd_T66 l (i : Int) = l[i] := by simp [rd_T66, List.getD_eq_getElem?_getD, h]
theorem mul4 {a b : Int} (ha : 1 ≤ a ∧ a ≤ 4) (hb : 1 ≤ b ∧ b ≤ 4) : 1 ≤ a * b ∧ a * b ≤ 16 := by
  have h1 : (1 : Int) * 1 ≤ a * b := Int.mul_le_mul ha.1 hb.1 (by omega) (by omega)
  have h2 : a * b ≤ 4 * 4 := Int.mul_le_mul ha.2 hb.2 (by omega) (by omega)
  omega
theorem specFr_l1 (p w h r : Int) (l : List S66) (hl : l.length ≤ 4) (x : S66) (i : Nat) (hi : i ≤ l.length) (s : Int) : ∀ (d k j : Nat), j + d = i → spec_FrameOk.l1 (k + d + 1) s (i : Int) (j : Int) p w h r l x.f0 x.f1 x.f2 x.f3 = if ((l.take i).drop j).any (fun y => y.f0 == x.f0) then some false else spec_FrameOk.l0 k (wrap64 (s + wrap64 (x.f1 * x.f2))) (wrap64 ((i : Int) + 1)) p w h r l := by
  intro d
  induction d with
  | zero =>
    intro k j hj
    rw [spec_FrameOk.l1, if_neg (by omega), List.drop_eq_nil_of_le (by simp; omega)]; rfl
  | succ d ih =>
    intro k j hj
    have hjl : j < (l.take i).length := by simp; omega
    rw [show k + (d + 1) + 1 = (k + d + 1) + 1 by omega, spec_FrameOk.l1, if_pos (by omega), if_pos (by omega), if_pos (by omega), rdC_nat l j (by omega), drop_at (l.take i) j hjl, List.any_cons, List.getElem_take]
    by_cases he : l[j].f0 = x.f0
    · rw [if_pos he, if_pos (by simp [he])]
    · rw [if_neg he, wsucc (by omega), ih k (j + 1) (by omega)]
      have : (l[j].f0 == x.f0) = false := beq_eq_false_iff_ne.mpr he
      rw [this, Bool.false_or]
theorem specFr_l0 (p w h r : Int) (l : List S66) (hl : l.length ≤ 4) : ∀ (d k i : Nat) (s : Int), i + d = l.length → 10 * (d + 1) ≤ k → 0 ≤ s → s ≤ 16 * (i : Int) → spec_FrameOk.l0 k s (i : Int) p w h r l = some (frameL (l.take i) (l.drop i) s) := by
  intro d
  induction d with
  | zero =>
    intro k i s hi hk h0 hs
    obtain ⟨k, rfl⟩ : ∃ m, k = m + 1 := ⟨k - 1, by omega⟩
    rw [spec_FrameOk.l0, if_neg (by omega), List.drop_eq_nil_of_le (by omega), frameL]
  | succ d ih =>
    intro k i s hi hk h0 hs
    obtain ⟨k, rfl⟩ : ∃ m, k = m + 1 := ⟨k - 1, by omega⟩
    have hil : i < l.length := by omega
    have hstep : spec_FrameOk.l0 (k + 1) s (i : Int) p w h r l = spec_FrameOk.j2 k s (i : Int) (!compOk l[i]) p w h r l l[i].f0 l[i].f1 l[i].f2 l[i].f3 := by
      rw [spec_FrameOk.l0, if_pos (by omega), if_pos (by omega), rdC_nat l i hil, between_eq, between_eq, between_eq, between_eq]
      simp only [Option.bind_some, compOk]
      generalize decide (0 ≤ l[i].f0 ∧ l[i].f0 ≤ 255) = b1
      generalize decide (1 ≤ l[i].f1 ∧ l[i].f1 ≤ 4) = b2
      generalize decide (1 ≤ l[i].f2 ∧ l[i].f2 ≤ 4) = b3
      generalize decide (0 ≤ l[i].f3 ∧ l[i].f3 ≤ 3) = b4
      cases b1 <;> cases b2 <;> cases b3 <;> rfl 
    rw [hstep, drop_at l i hil, frameL]
    obtain ⟨k, rfl⟩ : ∃ m, k = m + 1 := ⟨k - 1, by omega⟩
    by_cases hc : compOk l[i] = true
    · obtain ⟨_, g1, g2, _⟩ := compOk_iff.1 hc
      have hm := mul4 g1 g2
      rw [hc, spec_FrameOk.j2, if_neg (by decide), Bool.true_and]
      obtain ⟨k, rfl⟩ : ∃ m, k = m + i + 1 := ⟨k - i - 1, by omega⟩
      have e := specFr_l1 p w h r l hl l[i] i (by omega) s i k 0 (by omega)
      rw [List.drop_zero] at e
      refine e.trans ?_
      rw [w64 (x := l[i].f1 * l[i].f2) (by omega) (by omega), w64 (by omega) (by omega), wsucc (by omega)]
      by_cases ha : (l.take i).any (fun y => y.f0 == l[i].f0) = true
      · rw [if_pos ha, ha]; rfl
      · have ha' : (l.take i).any (fun y => y.f0 == l[i].f0) = false := by simpa using ha
        rw [if_neg ha, ha', ih k (i + 1) _ (by omega) (by omega) (by omega) (by omega), List.take_succ_eq_append_getElem hil]; rfl
    · have hc : compOk l[i] = false := by simpa using hc
      rw [hc, spec_FrameOk.j2, if_pos (by rfl), Bool.false_and]
theorem implFr_l0 (p w h r : Int) (l : List S66) (hl : l.length ≤ 4) : ∀ (d k i : Nat) (s : Int), i + d = l.length → 10 * (d + 1) ≤ k → 0 ≤ s → s ≤ 16 * (i : Int) → impl_FrameOk.l0 k s l (l.length : Int) (i : Int) p w h r l = some (frameL (l.take i) (l.drop i) s) := by
  intro d
  induction d with
  | zero =>
    intro k i s hi hk h0 hs
    obtain ⟨k, rfl⟩ : ∃ m, k = m + 1 := ⟨k - 1, by omega⟩
    rw [impl_FrameOk.l0, if_neg (by omega), List.drop_eq_nil_of_le (by omega), frameL]
  | succ d ih =>
    intro k i s hi hk h0 hs
    obtain ⟨k, rfl⟩ : ∃ m, k = m + 1 := ⟨k - 1, by omega⟩
    have hil : i < l.length := by omega
    have hstep : impl_FrameOk.l0 (k + 1) s l (l.length : Int) (i : Int) p w h r l = impl_FrameOk.j2 k s (i : Int) l (l.length : Int) (i : Int) (!compOk l[i]) p w h r l l[i].f0 l[i].f1 l[i].f2 l[i].f3 := by
      rw [impl_FrameOk.l0, if_pos (by omega), if_pos (by omega), if_pos (by omega), rdC_nat l i hil, within_eq, within_eq, within_eq, within_eq]
      simp only [Option.bind_some, compOk]
      generalize decide (0 ≤ l[i].f0 ∧ l[i].f0 ≤ 255) = b1
      generalize decide (1 ≤ l[i].f1 ∧ l[i].f1 ≤ 4) = b2
      generalize decide (1 ≤ l[i].f2 ∧ l[i].f2 ≤ 4) = b3
      generalize decide (0 ≤ l[i].f3 ∧ l[i].f3 ≤ 3) = b4
      cases b1 <;> cases b2 <;> cases b3 <;> rfl
    rw [hstep, drop_at l i hil, frameL]
    obtain ⟨k, rfl⟩ : ∃ m, k = m + 1 := ⟨k - 1, by omega⟩
    by_cases hc : compOk l[i] = true
    · obtain ⟨_, g1, g2, _⟩ := compOk_iff.1 hc
      have hm := mul4 g1 g2
      rw [hc, impl_FrameOk.j2, if_neg (by decide), if_pos (by omega), if_pos (by omega), slices_Has54.f, Option.bind_some, Bool.true_and, Int.toNat_natCast, w64 (x := l[i].f1 * l[i].f2) (by omega) (by omega), w64 (by omega) (by omega), wsucc (by omega)]
      by_cases ha : (l.take i).any (fun y => y.f0 == l[i].f0) = true
      · rw [if_pos ha, ha]; rfl
      · have ha' : (l.take i).any (fun y => y.f0 == l[i].f0) = false := by simpa using ha
        rw [if_neg ha, ha', ih k (i + 1) _ (by omega) (by omega) (by omega) (by omega), List.take_succ_eq_append_getElem hil]; rfl
    · have hc : compOk l[i] = false := by simpa using hc
      rw [hc, impl_FrameOk.j2, if_pos (by rfl), Bool.false_and]
theorem mul256 {a b : Int} (ha : 1 ≤ a ∧ a ≤ 256) (hb : 1 ≤ b ∧ b ≤ 256) : 1 ≤ a * b ∧ a * b ≤ 65536 := by
  have h1 : (1 : Int) * 1 ≤ a * b := Int.mul_le_mul ha.1 hb.1 (by omega) (by omega)
  have h2 : a * b ≤ 256 * 256 := Int.mul_le_mul ha.2 hb.2 (by omega) (by omega)
  omega
theorem specFrame_eq (p w h r : Int) (l : List S66) (k : Nat) (hk : 100 ≤ k) : spec_FrameOk.f k p w h r l = some (frameB p w h r l) := by
  obtain ⟨k, rfl⟩ : ∃ m, k = m + 1 := ⟨k - 1, by omega⟩
  have jt : ∀ p : Int, spec_FrameOk.j0 (k + 1) true p w h r l = some false := by intro p; rw [spec_FrameOk.j0, if_pos rfl]
  have jf : l.length ≤ 4 → ∀ p : Int, spec_FrameOk.j0 (k + 1) false p w h r l = some (frameL [] l 0) := by
    intro hl p
    rw [spec_FrameOk.j0, if_neg (by decide)]
    exact specFr_l0 p w h r l hl l.length k 0 0 (by omega) (by omega) (by omega) (by omega)
  unfold spec_FrameOk.f frameB
  simp only [between_eq, Option.bind_some]
  by_cases c1 : 1 ≤ w ∧ w ≤ 256
  · by_cases c2 : 1 ≤ h ∧ h ≤ 256
    · have hm := mul256 c1 c2
      rw [w64 (x := w * h) (by omega) (by omega)]
      by_cases c3 : w * h > 16384
      · have c3' : ¬ w * h ≤ 16384 := by omega
        by_cases q8 : p = 8 <;> by_cases q12 : p = 12 <;> simp [c1, c2, c3, c3', jt, q8, q12]
      · have c3' : w * h ≤ 16384 := by omega
        by_cases c4 : 0 ≤ r ∧ r ≤ 255
        · by_cases c5 : 1 ≤ (l.length : Int) ∧ (l.length : Int) ≤ 4
          · have hj := jf (by omega)
            rw [decide_eq_true c1, decide_eq_true c2, decide_eq_true c3', decide_eq_true c4, decide_eq_true c5, if_neg c3]
            by_cases q8 : p = 8 <;> by_cases q12 : p = 12 <;> simp [jt, hj, q8, q12]
          · rw [decide_eq_true c1, decide_eq_true c2, decide_eq_true c3', decide_eq_true c4, decide_eq_false c5, if_neg c3]
            by_cases q8 : p = 8 <;> by_cases q12 : p = 12 <;> simp [jt, q8, q12]
        · rw [decide_eq_true c1, decide_eq_true c2, decide_eq_true c3', decide_eq_false c4, if_neg c3]
          by_cases q8 : p = 8 <;> by_cases q12 : p = 12 <;> simp [jt, q8, q12]
    · rw [decide_eq_true c1, decide_eq_false c2]
      by_cases q8 : p = 8 <;> by_cases q12 : p = 12 <;> simp [jt, q8, q12]
  · rw [decide_eq_false c1]
    by_cases q8 : p = 8 <;> by_cases q12 : p = 12 <;> simp [jt, q8, q12]
theorem implFrame_eq (p w h r : Int) (l : List S66) (k : Nat) (hk : 100 ≤ k) : impl_FrameOk.f k p w h r l = some (frameB p w h r l) := by
  obtain ⟨k, rfl⟩ : ∃ m, k = m + 1 := ⟨k - 1, by omega⟩
  have jt : ∀ p : Int, impl_FrameOk.j0 (k + 1) true p w h r l = some false := by intro p; rw [impl_FrameOk.j0, if_pos rfl]
  have jf : l.length ≤ 4 → ∀ p : Int, impl_FrameOk.j0 (k + 1) false p w h r l = some (frameL [] l 0) := by
    intro hl p
    rw [impl_FrameOk.j0, if_neg (by decide)]
    exact implFr_l0 p w h r l hl l.length k 0 0 (by omega) (by omega) (by omega) (by omega)
  unfold impl_FrameOk.f frameB
  simp only [within_eq, Option.bind_some]
  by_cases c1 : 1 ≤ w ∧ w ≤ 256
  · by_cases c2 : 1 ≤ h ∧ h ≤ 256
    · have hm := mul256 c1 c2
      rw [w64 (x := w * h) (by omega) (by omega)]
      by_cases c3 : w * h > 16384
      · have c3' : ¬ w * h ≤ 16384 := by omega
        by_cases q8 : p = 8 <;> by_cases q12 : p = 12 <;> simp [c1, c2, c3, c3', jt, q8, q12]
      · have c3' : w * h ≤ 16384 := by omega
        by_cases c4 : 0 ≤ r ∧ r ≤ 255
        · by_cases c5 : 1 ≤ (l.length : Int) ∧ (l.length : Int) ≤ 4
          · have hj := jf (by omega)
            rw [decide_eq_true c1, decide_eq_true c2, decide_eq_true c3', decide_eq_true c4, decide_eq_true c5, if_neg c3]
            by_cases q8 : p = 8 <;> by_cases q12 : p = 12 <;> simp [jt, hj, q8, q12]
          · rw [decide_eq_true c1, decide_eq_true c2, decide_eq_true c3', decide_eq_true c4, decide_eq_false c5, if_neg c3]
            by_cases q8 : p = 8 <;> by_cases q12 : p = 12 <;> simp [jt, q8, q12]
        · rw [decide_eq_true c1, decide_eq_true c2, decide_eq_true c3', decide_eq_false c4, if_neg c3]
          by_cases q8 : p = 8 <;> by_cases q12 : p = 12 <;> simp [jt, q8, q12]
    · rw [decide_eq_true c1, decide_eq_false c2]
      by_cases q8 : p = 8 <;> by_cases q12 : p = 12 <;> simp [jt, q8, q12]
  · rw [decide_eq_false c1]
    by_cases q8 : p = 8 <;> by_cases q12 : p = 12 <;> simp [jt, q8, q12]
theorem frameB_iff {p w h r : Int} {l : List S66} : frameB p w h r l = true ↔ (p = 8 ∨ p = 12) ∧ (1 ≤ w ∧ w ≤ 256) ∧ (1 ≤ h ∧ h ≤ 256) ∧ w * h ≤ 16384 ∧ (0 ≤ r ∧ r ≤ 255) ∧ (1 ≤ (l.length : Int) ∧ (l.length : Int) ≤ 4) ∧ frameL [] l 0 = true := by
  simp [frameB]

theorem tdw {x y : Int} (h0 : 0 ≤ x) (h1 : x ≤ 4611686018427387904) (hy : 0 < y) : wrap64 (Int.tdiv x y) = x / y := by
  rw [Int.tdiv_eq_ediv_of_nonneg h0]
  have a := Int.ediv_nonneg h0 (Int.le_of_lt hy)
  have b := Int.ediv_le_self y h0
  exact w64 (by omega) (by omega)
theorem div_bd {x y : Int} (h0 : 0 ≤ x) (hy : 0 < y) : 0 ≤ x / y ∧ x / y ≤ x := ⟨Int.ediv_nonneg h0 (Int.le_of_lt hy), Int.ediv_le_self y h0⟩

def BytesL (l : List Int) : Prop := l.length ≤ 1048576 ∧ ∀ x ∈ l, 0 ≤ x ∧ x ≤ 255
theorem rd_byte {l : List Int} (h : BytesL l) (i : Int) (h0 : 0 ≤ i) (h1 : i < (l.length : Int)) : 0 ≤ rd l i ∧ rd l i ≤ 255 := by
  obtain ⟨n, rfl⟩ := Int.eq_ofNat_of_zero_le h0
  have hn : n < l.length := by omega
  rw [rd_nat l n hn]
  exact h.2 _ (List.getElem_mem hn)
def CurOk (a s b : Int) : Prop := 0 ≤ a ∧ a ≤ b ∧ b ≤ 1152921504606846976 ∧ 0 ≤ s ∧ s ≤ 65521
theorem tmodw {x y : Int} (h0 : 0 ≤ x) (hy : 0 < y) : 0 ≤ Int.tmod x y ∧ Int.tmod x y < y := by
  rw [Int.tmod_eq_emod_of_nonneg h0]
  exact ⟨Int.emod_nonneg _ (by omega), Int.emod_lt_of_pos _ hy⟩
theorem pick_ok {l : List Int} (hl : BytesL l) {a s b : Int} (n : Int) (hc : CurOk a s b) (hb : b + 2 ≤ 1152921504606846976) (hn : 1 ≤ n) : ∃ r a' s', spec_l01Cur_pick.f l a s n = some (r, a', s') ∧ 0 ≤ r ∧ r < n ∧ CurOk a' s' (b + 2) := by
  obtain ⟨h1, h2, h3, h4, h5⟩ := hc
  have hll := hl.1
  unfold spec_l01Cur_pick.f
  by_cases c1 : n < 2
  · exact ⟨0, a, s, by rw [if_pos c1], by omega, by omega, by omega, by omega, hb, h4, h5⟩
  rw [if_neg c1]
  by_cases c2 : a < (l.length : Int)
  · rw [if_pos c2, if_pos h1, w64 (x := a + 1) (by omega) (by omega)]
    have r1 := rd_byte hl a h1 c2
    have t1 := tmodw (x := rd l a) (y := n) (by omega) (by omega)
    by_cases c3 : n > 256
    · rw [if_pos c3]
      by_cases c4 : a + 1 < (l.length : Int)
      · have r2 := rd_byte hl (a + 1) (by omega) c4
        have t2 := tmodw (x := 256 * rd l a + rd l (a + 1)) (y := n) (by omega) (by omega)
        rw [if_pos c4, if_pos (by omega), if_neg (by omega)]
        refine ⟨_, _, _, rfl, ?_, ?_, ?_⟩
        · rw [w64 (x := rd l a) (by omega) (by omega), w64 (x := 256 * rd l a) (by omega) (by omega), w64 (x := rd l (a + 1)) (by omega) (by omega), w64 (by omega) (by omega)]; exact t2.1
        · rw [w64 (x := rd l a) (by omega) (by omega), w64 (x := 256 * rd l a) (by omega) (by omega), w64 (x := rd l (a + 1)) (by omega) (by omega), w64 (by omega) (by omega)]; exact t2.2
        · rw [w64 (x := a + 1 + 1) (by omega) (by omega)]; exact ⟨by omega, by omega, hb, h4, h5⟩
      · rw [if_neg c4, if_neg (by omega), w64 (x := rd l a) (by omega) (by omega)]
        exact ⟨_, _, _, rfl, t1.1, t1.2, by omega, by omega, hb, h4, h5⟩
    · rw [if_neg c3, if_neg (by omega), w64 (x := rd l a) (by omega) (by omega)]
      exact ⟨_, _, _, rfl, t1.1, t1.2, by omega, by omega, hb, h4, h5⟩
  · rw [if_neg c2, w64 (x := s * 1103) (by omega) (by omega), w64 (x := s * 1103 + 12345) (by omega) (by omega), w64 (x := a + 1) (by omega) (by omega)]
    have t3 := tmodw (x := s * 1103 + 12345) (y := 65521) (by omega) (by omega)
    rw [tdw (x := Int.tmod (s * 1103 + 12345) 65521) (by omega) (by omega) (by omega)]
    have d3 := div_bd (x := Int.tmod (s * 1103 + 12345) 65521) (y := 3) (by omega) (by omega)
    by_cases c5 : (l.length : Int) > 0
    · have t4 := tmodw (x := a) (y := (l.length : Int)) h1 c5
      have r4 := rd_byte hl (Int.tmod a (l.length : Int)) t4.1 t4.2
      rw [if_pos c5, if_neg (by omega), if_pos t4.1, if_pos t4.2, if_neg (by omega), w64 (x := rd l (Int.tmod a (l.length : Int))) (by omega) (by omega), w64 (x := Int.tmod (s * 1103 + 12345) 65521 / 3 + rd l (Int.tmod a (l.length : Int))) (by omega) (by omega)]
      have t5 := tmodw (x := Int.tmod (s * 1103 + 12345) 65521 / 3 + rd l (Int.tmod a (l.length : Int))) (y := n) (by omega) (by omega)
      exact ⟨_, _, _, rfl, t5.1, t5.2, by omega, by omega, hb, t3.1, by omega⟩
    · rw [if_neg c5, if_neg (by omega)]
      have t5 := tmodw (x := Int.tmod (s * 1103 + 12345) 65521 / 3) (y := n) (by omega) (by omega)
      exact ⟨_, _, _, rfl, t5.1, t5.2, by omega, by omega, hb, t3.1, by omega⟩
theorem open_ok {l : List Int} (hl : BytesL l) : ∃ s, spec_l01Open.f l = some (l, 0, s) ∧ CurOk 0 s 0 := by
  refine ⟨13 + ((l.length : Int) % 1000), rfl, by omega, by omega, by omega, by omega, by omega⟩

def compsOf : List Int → List S66
  | a :: b :: c :: t => ⟨a, b / 16, b % 16, c⟩ :: compsOf t
  | _ => []
def frameOrNone (p w h r : Int) (l : List S66) : Int × Int × Int × Int × (List S66) × Bool := if frameB p w h r l then (p, w, h, r, l, true) else (0, 0, 0, 0, [], false)
theorem specRF_loop {b : List Int} (hb : BytesL b) (n : Nat) (hn : b.length = 5 + 3 * n) (hn2 : n ≤ 255) (p w h r : Int) : ∀ (d k m : Nat) (a : List S66), m + d = n → d + 101 ≤ k → a.length = m → spec_ReadFrame.l0 k b ((5 + 3 * m : Nat) : Int) p w h r a = some (frameOrNone p w h r (a ++ compsOf (b.drop (5 + 3 * m)))) := by
  intro d
  induction d with
  | zero =>
    intro k m a hm hk ha
    obtain ⟨k, rfl⟩ : ∃ m, k = m + 1 := ⟨k - 1, by omega⟩
    rw [spec_ReadFrame.l0, if_neg (by omega), List.drop_eq_nil_of_le (by omega), compsOf, List.append_nil, specFrame_eq p w h r a k (by omega), Option.bind_some, frameOrNone]
    split <;> rfl
    all_goals simp
  | succ d ih =>
    intro k m a hm hk ha
    obtain ⟨k, rfl⟩ : ∃ m, k = m + 1 := ⟨k - 1, by omega⟩
    have w1 : wrap64 (((5 + 3 * m : Nat) : Int) + 1) = ((5 + 3 * m + 1 : Nat) : Int) := by rw [w64 (by omega) (by omega)]; omega
    have w2 : wrap64 (((5 + 3 * m : Nat) : Int) + 2) = ((5 + 3 * m + 2 : Nat) : Int) := by rw [w64 (by omega) (by omega)]; omega
    have w3 : wrap64 (((5 + 3 * m : Nat) : Int) + 3) = ((5 + 3 * (m + 1) : Nat) : Int) := by rw [w64 (by omega) (by omega)]; omega
    have r0 := rd_byte hb ((5 + 3 * m : Nat) : Int) (by omega) (by omega)
    have r1 := rd_byte hb ((5 + 3 * m + 1 : Nat) : Int) (by omega) (by omega)
    have r2 := rd_byte hb ((5 + 3 * m + 2 : Nat) : Int) (by omega) (by omega)
    rw [spec_ReadFrame.l0, if_pos (by omega), if_pos (by omega), w1, w2, w3, if_pos (by omega), if_pos (by omega), if_pos (by omega), if_pos (by omega), if_pos (by omega), w64 (x := rd b ((5 + 3 * m : Nat) : Int)) (by omega) (by omega), w64 (x := rd b ((5 + 3 * m + 1 : Nat) : Int)) (by omega) (by omega), w64 (x := rd b ((5 + 3 * m + 2 : Nat) : Int)) (by omega) (by omega), Int.tdiv_eq_ediv_of_nonneg r1.1, Int.tmod_eq_emod_of_nonneg r1.1, w64 (x := rd b ((5 + 3 * m + 1 : Nat) : Int) / 16) (by omega) (by omega), ih k (m + 1) _ (by omega) (by omega) (by simp; omega)]
    rw [drop_at b (5 + 3 * m) (by omega), drop_at b (5 + 3 * m + 1) (by omega), drop_at b (5 + 3 * m + 1 + 1) (by omega), compsOf, rd_nat b (5 + 3 * m) (by omega), rd_nat b (5 + 3 * m + 1) (by omega), rd_nat b (5 + 3 * m + 2) (by omega), List.append_assoc, show 5 + 3 * (m + 1) = 5 + 3 * m + 1 + 1 + 1 by omega]
    rfl
def readOk (b : List Int) : Bool := decide (5 ≤ b.length) && decide ((b.length : Int) = 5 + 3 * b.getD 4 0)
def readR (b : List Int) : Int × Int × Int × Int × (List S66) × Bool := if readOk b then frameOrNone (b.getD 0 0) (b.getD 1 0 + 1) (b.getD 2 0 + 1) (b.getD 3 0) (compsOf (b.drop 5)) else (0, 0, 0, 0, [], false)
theorem getD_byte {b : List Int} (hb : BytesL b) (i : Nat) (hi : i < b.length) : 0 ≤ b.getD i 0 ∧ b.getD i 0 ≤ 255 := by
  have := rd_byte hb (i : Int) (by omega) (by omega)
  simpa [rd] using this
theorem specRF_eq {b : List Int} (hb : BytesL b) (k : Nat) (hk : 400 ≤ k) : spec_ReadFrame.f k b = some (readR b) := by
  obtain ⟨k, rfl⟩ : ∃ m, k = m + 1 := ⟨k - 1, by omega⟩
  have e : ∀ i : Nat, rd b (i : Int) = b.getD i 0 := fun i => by simp [rd]
  have hbl := hb.1
  unfold spec_ReadFrame.f readR readOk
  by_cases h : (b.length : Int) < 5
  · rw [if_pos h, spec_ReadFrame.j0, if_pos rfl, decide_eq_false (by omega)]; rfl
  · rw [if_neg h, if_pos (by omega), decide_eq_true (by omega), Bool.true_and]
    have b0 := getD_byte hb 0 (by omega)
    have b1 := getD_byte hb 1 (by omega)
    have b2 := getD_byte hb 2 (by omega)
    have b3 := getD_byte hb 3 (by omega)
    have b4 := getD_byte hb 4 (by omega)
    have e0 : rd b 0 = b.getD 0 0 := e 0
    have e1 : rd b 1 = b.getD 1 0 := e 1
    have e2 : rd b 2 = b.getD 2 0 := e 2
    have e3 : rd b 3 = b.getD 3 0 := e 3
    have e4 : rd b 4 = b.getD 4 0 := e 4
    rw [e4, w64 (x := b.getD 4 0) (by omega) (by omega), w64 (x := 3 * b.getD 4 0) (by omega) (by omega), w64 (x := 5 + 3 * b.getD 4 0) (by omega) (by omega), spec_ReadFrame.j0]
    by_cases hl : (b.length : Int) = 5 + 3 * b.getD 4 0
    · rw [if_neg (by simp [hl]), if_pos (by omega), if_pos (by omega), if_pos (by omega), if_pos (by omega), e0, e1, e2, e3, w64 (x := b.getD 0 0) (by omega) (by omega), w64 (x := b.getD 1 0) (by omega) (by omega), w64 (x := b.getD 1 0 + 1) (by omega) (by omega), w64 (x := b.getD 2 0) (by omega) (by omega), w64 (x := b.getD 2 0 + 1) (by omega) (by omega), w64 (x := b.getD 3 0) (by omega) (by omega), decide_eq_true hl, if_pos rfl]
      have := specRF_loop hb (b.getD 4 0).toNat (by omega) (by omega) (b.getD 0 0) (b.getD 1 0 + 1) (b.getD 2 0 + 1) (b.getD 3 0) (b.getD 4 0).toNat k 0 [] (by omega) (by omega) rfl
      simpa using this
    · rw [if_pos (by simpa using hl), decide_eq_false hl]; rfl
theorem implRF_loop {b : List Int} (hb : BytesL b) (n : Nat) (hn : b.length = 5 + 3 * n) (hn2 : n ≤ 255) (p w h r : Int) : ∀ (d k m : Nat) (a : List S66), m + d = n → d + 101 ≤ k → a.length = m → impl_ReadFrame.l0 k b ((5 + 3 * m : Nat) : Int) p w h r a = some (frameOrNone p w h r (a ++ compsOf (b.drop (5 + 3 * m)))) := by
  intro d
  induction d with
  | zero =>
    intro k m a hm hk ha
    obtain ⟨k, rfl⟩ : ∃ m, k = m + 1 := ⟨k - 1, by omega⟩
    rw [impl_ReadFrame.l0, if_neg (by omega), List.drop_eq_nil_of_le (by omega), compsOf, List.append_nil, implFrame_eq p w h r a k (by omega), Option.bind_some, frameOrNone]
    split <;> rfl
    all_goals simp
  | succ d ih =>
    intro k m a hm hk ha
    obtain ⟨k, rfl⟩ : ∃ m, k = m + 1 := ⟨k - 1, by omega⟩
    have w1 : wrap64 (((5 + 3 * m : Nat) : Int) + 1) = ((5 + 3 * m + 1 : Nat) : Int) := by rw [w64 (by omega) (by omega)]; omega
    have w2 : wrap64 (((5 + 3 * m : Nat) : Int) + 2) = ((5 + 3 * m + 2 : Nat) : Int) := by rw [w64 (by omega) (by omega)]; omega
    have w3 : wrap64 (((5 + 3 * m : Nat) : Int) + 3) = ((5 + 3 * (m + 1) : Nat) : Int) := by rw [w64 (by omega) (by omega)]; omega
    have r0 := rd_byte hb ((5 + 3 * m : Nat) : Int) (by omega) (by omega)
    have r1 := rd_byte hb ((5 + 3 * m + 1 : Nat) : Int) (by omega) (by omega)
    have r2 := rd_byte hb ((5 + 3 * m + 2 : Nat) : Int) (by omega) (by omega)
    rw [impl_ReadFrame.l0, if_pos (by omega), if_pos (by omega), w1, w2, w3, if_pos (by omega), if_pos (by omega), if_pos (by omega), if_pos (by omega), if_pos (by omega), w64 (x := rd b ((5 + 3 * m : Nat) : Int)) (by omega) (by omega), w64 (x := rd b ((5 + 3 * m + 1 : Nat) : Int)) (by omega) (by omega), w64 (x := rd b ((5 + 3 * m + 2 : Nat) : Int)) (by omega) (by omega), Int.tdiv_eq_ediv_of_nonneg r1.1, Int.tmod_eq_emod_of_nonneg r1.1, w64 (x := rd b ((5 + 3 * m + 1 : Nat) : Int) / 16) (by omega) (by omega), ih k (m + 1) _ (by omega) (by omega) (by simp; omega)]
    rw [drop_at b (5 + 3 * m) (by omega), drop_at b (5 + 3 * m + 1) (by omega), drop_at b (5 + 3 * m + 1 + 1) (by omega), compsOf, rd_nat b (5 + 3 * m) (by omega), rd_nat b (5 + 3 * m + 1) (by omega), rd_nat b (5 + 3 * m + 2) (by omega), List.append_assoc, show 5 + 3 * (m + 1) = 5 + 3 * m + 1 + 1 + 1 by omega]
    rfl
theorem implRF_eq {b : List Int} (hb : BytesL b) (k : Nat) (hk : 400 ≤ k) : impl_ReadFrame.f k b = some (readR b) := by
  obtain ⟨k, rfl⟩ : ∃ m, k = m + 1 := ⟨k - 1, by omega⟩
  have e : ∀ i : Nat, rd b (i : Int) = b.getD i 0 := fun i => by simp [rd]
  have hbl := hb.1
  unfold impl_ReadFrame.f readR readOk
  by_cases h : (b.length : Int) < 5
  · rw [if_pos h, impl_ReadFrame.j0, if_pos rfl, decide_eq_false (by omega)]; rfl
  · rw [if_neg h, if_pos (by omega), decide_eq_true (by omega), Bool.true_and]
    have b0 := getD_byte hb 0 (by omega)
    have b1 := getD_byte hb 1 (by omega)
    have b2 := getD_byte hb 2 (by omega)
    have b3 := getD_byte hb 3 (by omega)
    have b4 := getD_byte hb 4 (by omega)
    have e0 : rd b 0 = b.getD 0 0 := e 0
    have e1 : rd b 1 = b.getD 1 0 := e 1
    have e2 : rd b 2 = b.getD 2 0 := e 2
    have e3 : rd b 3 = b.getD 3 0 := e 3
    have e4 : rd b 4 = b.getD 4 0 := e 4
    rw [e4, w64 (x := b.getD 4 0) (by omega) (by omega), w64 (x := 3 * b.getD 4 0) (by omega) (by omega), w64 (x := 5 + 3 * b.getD 4 0) (by omega) (by omega), impl_ReadFrame.j0]
    by_cases hl : (b.length : Int) = 5 + 3 * b.getD 4 0
    · rw [if_neg (by simp [hl]), if_pos (by omega), if_pos (by omega), if_pos (by omega), if_pos (by omega), e0, e1, e2, e3, w64 (x := b.getD 0 0) (by omega) (by omega), w64 (x := b.getD 1 0) (by omega) (by omega), w64 (x := b.getD 1 0 + 1) (by omega) (by omega), w64 (x := b.getD 2 0) (by omega) (by omega), w64 (x := b.getD 2 0 + 1) (by omega) (by omega), w64 (x := b.getD 3 0) (by omega) (by omega), decide_eq_true hl, if_pos rfl]
      have := implRF_loop hb (b.getD 4 0).toNat (by omega) (by omega) (b.getD 0 0) (b.getD 1 0 + 1) (b.getD 2 0 + 1) (b.getD 3 0) (b.getD 4 0).toNat k 0 [] (by omega) (by omega) rfl
      simpa using this
    · rw [if_pos (by simpa using hl), decide_eq_false hl]; rfl

def compBytes (x : S66) : List Int := [x.f0 % 256, (wrap64 ((wrap64 (16 * x.f1)) + x.f2)) % 256, x.f3 % 256]
def headBytes (p w h r : Int) (l : List S66) : List Int := [p % 256, (wrap64 (w - 1)) % 256, (wrap64 (h - 1)) % 256, r % 256, (l.length : Int) % 256]
theorem specWF_loop (p w h r : Int) (l : List S66) (hl : l.length ≤ 1000) : ∀ (d k i : Nat) (a : List Int), i + d = l.length → d < k → a.length ≤ 5 + 3 * i → spec_WriteFrame.l0 k a (i : Int) p w h r l = some (a ++ (l.drop i).flatMap compBytes) := by
  intro d
  induction d with
  | zero =>
    intro k i a hi hk ha
    obtain ⟨k, rfl⟩ : ∃ m, k = m + 1 := ⟨k - 1, by omega⟩
    rw [spec_WriteFrame.l0, if_neg (by omega), List.drop_eq_nil_of_le (by omega)]; simp
  | succ d ih =>
    intro k i a hi hk ha
    obtain ⟨k, rfl⟩ : ∃ m, k = m + 1 := ⟨k - 1, by omega⟩
    rw [spec_WriteFrame.l0, if_pos (by omega), if_pos (by omega), rdC_nat l i (by omega), Option.bind_some, if_pos (by simp; omega), wsucc (by omega), ih k (i + 1) _ (by omega) (by omega) (by simp; omega), drop_at l i (by omega), List.flatMap_cons, List.append_assoc]
    rfl
theorem implWF_loop (l : List S66) (hl : l.length ≤ 1000) : ∀ (d k i : Nat) (a : List Int), i + d = l.length → d < k → a.length ≤ 5 + 3 * i → impl_WriteFrame.l0 k a l (l.length : Int) (i : Int) = some (a ++ (l.drop i).flatMap compBytes) := by
  intro d
  induction d with
  | zero =>
    intro k i a hi hk ha
    obtain ⟨k, rfl⟩ : ∃ m, k = m + 1 := ⟨k - 1, by omega⟩
    rw [impl_WriteFrame.l0, if_neg (by omega), List.drop_eq_nil_of_le (by omega)]; simp
  | succ d ih =>
    intro k i a hi hk ha
    obtain ⟨k, rfl⟩ : ∃ m, k = m + 1 := ⟨k - 1, by omega⟩
    rw [impl_WriteFrame.l0, if_pos (by omega), if_pos (by omega), if_pos (by omega), rdC_nat l i (by omega), Option.bind_some, if_pos (by simp; omega), wsucc (by omega), ih k (i + 1) _ (by omega) (by omega) (by simp; omega), drop_at l i (by omega), List.flatMap_cons, List.append_assoc]
    rfl
def wfR (p w h r : Int) (l : List S66) : List Int := if frameB p w h r l then headBytes p w h r l ++ l.flatMap compBytes else []
theorem compBytes_len (l : List S66) : (l.flatMap compBytes).length = 3 * l.length := by
  induction l with
  | nil => rfl
  | cons x xs ih => rw [List.flatMap_cons, List.length_append, ih]; simp [compBytes]; omega
theorem wfR_len (p w h r : Int) (l : List S66) : (wfR p w h r l).length ≤ 20 := by
  unfold wfR
  by_cases hb : frameB p w h r l = true
  · obtain ⟨_, _, _, _, _, h5, _⟩ := frameB_iff.1 hb
    rw [if_pos hb, List.length_append, compBytes_len]
    simp [headBytes]; omega
  · rw [if_neg hb]; simp
theorem specWF_eq (p w h r : Int) (l : List S66) (k : Nat) (hk : 100 ≤ k) : spec_WriteFrame.f k p w h r l = some (wfR p w h r l) := by
  unfold spec_WriteFrame.f wfR
  rw [specFrame_eq p w h r l k hk, Option.bind_some]
  by_cases hb : frameB p w h r l = true
  · obtain ⟨_, _, _, _, _, h5, _⟩ := frameB_iff.1 hb
    rw [if_pos hb, if_pos hb]
    exact specWF_loop p w h r l (by omega) l.length k 0 _ (by omega) (by omega) (by simp)
  · rw [if_neg hb, if_neg hb]
theorem implWF_eq (p w h r : Int) (l : List S66) (k : Nat) (hk : 100 ≤ k) : impl_WriteFrame.f k p w h r l = some (wfR p w h r l) := by
  unfold impl_WriteFrame.f wfR
  rw [implFrame_eq p w h r l k hk, Option.bind_some]
  by_cases hb : frameB p w h r l = true
  · obtain ⟨_, _, _, _, _, h5, _⟩ := frameB_iff.1 hb
    rw [if_pos hb, if_pos hb]
    exact implWF_loop l (by omega) l.length k 0 _ (by omega) (by omega) (by simp)
  · rw [if_neg hb, if_neg hb]

theorem frameL_all : ∀ (l pre : List S66) (s : Int), frameL pre l s = true → ∀ x ∈ l, compOk x = true
  | [], _, _, _ => by simp
  | x :: xs, pre, s, h => by
    simp only [frameL, Bool.and_eq_true] at h
    intro y hy
    rcases List.mem_cons.1 hy with rfl | hy
    · exact h.1
    · exact frameL_all xs _ _ h.2.2 y hy
theorem compsOf_flat : ∀ (l : List S66), (∀ x ∈ l, compOk x = true) → compsOf (l.flatMap compBytes) = l
  | [], _ => rfl
  | x :: xs, h => by
    obtain ⟨h0, h1, h2, h3⟩ := compOk_iff.1 (h x (List.mem_cons_self ..))
    have hs := compsOf_flat xs (fun y hy => h y (List.mem_cons_of_mem _ hy))
    show compsOf ((x.f0 % 256) :: ((wrap64 ((wrap64 (16 * x.f1)) + x.f2)) % 256) :: (x.f3 % 256) :: (xs.flatMap compBytes)) = x :: xs
    rw [compsOf, hs, w64 (x := 16 * x.f1) (by omega) (by omega), w64 (x := 16 * x.f1 + x.f2) (by omega) (by omega)]
    congr 1
    rw [show x.f0 % 256 = x.f0 by omega, show (16 * x.f1 + x.f2) % 256 / 16 = x.f1 by omega, show (16 * x.f1 + x.f2) % 256 % 16 = x.f2 by omega, show x.f3 % 256 = x.f3 by omega]
theorem frame_all {p w h r : Int} {l : List S66} (hb : frameB p w h r l = true) : ∀ x ∈ l, compOk x = true := frameL_all l [] 0 (frameB_iff.1 hb).2.2.2.2.2.2
theorem wf_bytes {p w h r : Int} {l : List S66} : BytesL (wfR p w h r l) := by
  refine ⟨by have := wfR_len p w h r l; omega, ?_⟩
  unfold wfR
  split
  · intro x hx
    rcases List.mem_append.1 hx with hx | hx
    · simp only [headBytes, List.mem_cons, List.not_mem_nil, or_false] at hx; omega
    · obtain ⟨y, _, hy⟩ := List.mem_flatMap.1 hx
      simp only [compBytes, List.mem_cons, List.not_mem_nil, or_false] at hy; omega
  · intro x hx; simp at hx
theorem readR_wfR {p w h r : Int} {l : List S66} (hb : frameB p w h r l = true) : readR (wfR p w h r l) = (p, w, h, r, l, true) := by
  obtain ⟨h1, h2, h3, h4, h5, h6, h7⟩ := frameB_iff.1 hb
  have hlen : (headBytes p w h r l ++ l.flatMap compBytes).length = 5 + 3 * l.length := by rw [List.length_append, compBytes_len]; rfl
  have e0 : wrap64 (w - 1) = w - 1 := w64 (by omega) (by omega)
  have e1 : wrap64 (h - 1) = h - 1 := w64 (by omega) (by omega)
  have hd : headBytes p w h r l = [p, w - 1, h - 1, r, (l.length : Int)] := by
    unfold headBytes
    rw [e0, e1, show p % 256 = p by omega, show (w - 1) % 256 = w - 1 by omega, show (h - 1) % 256 = h - 1 by omega, show r % 256 = r by omega, show (l.length : Int) % 256 = (l.length : Int) by omega]
  have ok : readOk (wfR p w h r l) = true := by
    unfold readOk wfR
    rw [if_pos hb, hlen, hd]
    show (decide (5 ≤ 5 + 3 * l.length) && decide (((5 + 3 * l.length : Nat) : Int) = 5 + 3 * (l.length : Int))) = true
    simp
  unfold readR
  rw [if_pos ok]
  unfold wfR
  rw [if_pos hb, hd]
  show frameOrNone p (w - 1 + 1) (h - 1 + 1) r (compsOf (l.flatMap compBytes)) = _
  rw [compsOf_flat l (frame_all hb), show w - 1 + 1 = w by omega, show h - 1 + 1 = h by omega, frameOrNone, if_pos hb]
theorem flat_compsOf : ∀ (n : Nat) (t : List Int), t.length = 3 * n → (∀ x ∈ t, 0 ≤ x ∧ x ≤ 255) → (compsOf t).flatMap compBytes = t ∧ (compsOf t).length = n
  | 0, t, h, _ => by
    obtain rfl : t = [] := List.eq_nil_of_length_eq_zero (by omega)
    exact ⟨rfl, rfl⟩
  | n + 1, t, h, hb => by
    match t, h, hb with
    | a :: b :: c :: t, h, hb =>
      obtain ⟨g1, g2⟩ := flat_compsOf n t (by simp at h; omega) (fun x hx => hb x (by simp [hx]))
      have ha := hb a (by simp)
      have hb' := hb b (by simp)
      have hc := hb c (by simp)
      refine ⟨?_, by simp [compsOf, g2]⟩
      show (a % 256) :: ((wrap64 ((wrap64 (16 * (b / 16))) + (b % 16))) % 256) :: (c % 256) :: ((compsOf t).flatMap compBytes) = a :: b :: c :: t
      rw [g1, w64 (x := 16 * (b / 16)) (by omega) (by omega), w64 (x := 16 * (b / 16) + b % 16) (by omega) (by omega), show a % 256 = a by omega, show (16 * (b / 16) + b % 16) % 256 = b by omega, show c % 256 = c by omega]
    | [], h, _ => simp at h
    | [_], h, _ => simp at h; omega
    | [_, _], h, _ => simp at h; omega
theorem wfR_readR {t : List Int} (hb : BytesL t) {p w h r : Int} {l : List S66} (e : readR t = (p, w, h, r, l, true)) : wfR p w h r l = t := by
  unfold readR at e
  by_cases ok : readOk t = true
  · rw [if_pos ok] at e
    unfold frameOrNone at e
    by_cases fb : frameB (t.getD 0 0) (t.getD 1 0 + 1) (t.getD 2 0 + 1) (t.getD 3 0) (compsOf (t.drop 5)) = true
    · rw [if_pos fb] at e
      simp only [Prod.mk.injEq, and_true] at e
      obtain ⟨rfl, rfl, rfl, rfl, rfl⟩ := e
      unfold readOk at ok
      simp only [Bool.and_eq_true, decide_eq_true_eq] at ok
      match t, hb, ok, fb with
      | x0 :: x1 :: x2 :: x3 :: x4 :: t, hb, ok, fb =>
        have ok2 : ((x0 :: x1 :: x2 :: x3 :: x4 :: t).length : Int) = 5 + 3 * x4 := ok.2
        simp only [List.length_cons] at ok2
        have b0 := hb.2 x0 (by simp)
        have b1 := hb.2 x1 (by simp)
        have b2 := hb.2 x2 (by simp)
        have b3 := hb.2 x3 (by simp)
        have b4 := hb.2 x4 (by simp)
        obtain ⟨g1, g2⟩ := flat_compsOf x4.toNat t (by omega) (fun x hx => hb.2 x (by simp [hx]))
        unfold wfR
        rw [if_pos fb]
        show headBytes x0 (x1 + 1) (x2 + 1) x3 (compsOf t) ++ (compsOf t).flatMap compBytes = _
        rw [g1, headBytes, g2, w64 (x := x1 + 1 - 1) (by omega) (by omega), w64 (x := x2 + 1 - 1) (by omega) (by omega), show x0 % 256 = x0 by omega, show (x1 + 1 - 1) % 256 = x1 by omega, show (x2 + 1 - 1) % 256 = x2 by omega, show x3 % 256 = x3 by omega, show (x4.toNat : Int) % 256 = x4 by omega]
        rfl
      | [], _, ok, _ => exact absurd ok.1 (by simp)
      | [_], _, ok, _ => exact absurd ok.1 (by simp)
      | [_, _], _, ok, _ => exact absurd ok.1 (by simp)
      | [_, _, _], _, ok, _ => exact absurd ok.1 (by simp)
      | [_, _, _, _], _, ok, _ => exact absurd ok.1 (by simp)
    · rw [if_neg fb] at e; simp at e
  · rw [if_neg ok] at e; simp at e
theorem readR_len4 (b : List Int) : (readR b).2.2.2.2.1.length ≤ 4 := by
  unfold readR frameOrNone
  split
  · split
    · rename_i h
      have := (frameB_iff.1 h).2.2.2.2.2.1
      simp only; omega
    · simp
  · simp

theorem once_ok {l : List Int} (hl : BytesL l) {a s b : Int} (n : Int) (hc : CurOk a s b) (hb : b + 2 ≤ 1152921504606846976) (hn : 1 ≤ n) : ∃ r a' s', spec_l01Cur_once.f l a s n = some (r, a', s') ∧ CurOk a' s' (b + 2) := by
  obtain ⟨r, a', s', h, _, _, h'⟩ := pick_ok hl n hc hb hn
  unfold spec_l01Cur_once.f
  rw [h]
  exact ⟨_, _, _, rfl, h'⟩

def inR (lo hi : Int) (l : List Int) : Bool := l.all fun x => decide (lo ≤ x ∧ x ≤ hi)
theorem inR_nil (lo hi : Int) : inR lo hi [] = true := rfl
theorem inR_cons (lo hi x : Int) (l : List Int) : inR lo hi (x :: l) = (decide (lo ≤ x ∧ x ≤ hi) && inR lo hi l) := rfl
theorem inR_at {lo hi : Int} {l : List Int} (h : inR lo hi l = true) (i : Nat) (hi' : i < l.length) : lo ≤ l[i] ∧ l[i] ≤ hi := by
  unfold inR at h; rw [List.all_eq_true] at h; simpa using h l[i] (List.getElem_mem hi')

theorem rd_getD (l : List Int) (i : Nat) : rd l (i : Int) = l.getD i 0 := by simp [rd]
theorem push_loop {α β : Type} (F : Nat → List α → Int → Option β) (g : Nat → α) (n : Nat) (res : β)
    (hstep : ∀ (k i : Nat) (a : List α), i < n → a.length = i → F (k + 1) a (i : Int) = F k (a ++ [g i]) ((i + 1 : Nat) : Int))
    (hend : ∀ k : Nat, F (k + 1) ((List.range n).map g) (n : Int) = some res) : ∀ k : Nat, n < k → F k [] 0 = some res := by
  have main : ∀ (d k i : Nat), i + d = n → d < k → F k ((List.range i).map g) (i : Int) = some res := by
    intro d
    induction d with
    | zero =>
      intro k i h1 hk
      obtain ⟨k, rfl⟩ : ∃ m, k = m + 1 := ⟨k - 1, by omega⟩
      obtain rfl : i = n := by omega
      exact hend k
    | succ d ih =>
      intro k i h1 hk
      obtain ⟨k, rfl⟩ : ∃ m, k = m + 1 := ⟨k - 1, by omega⟩
      rw [hstep k i _ (by omega) (by simp)]
      have e : (List.range (i + 1)).map g = (List.range i).map g ++ [g i] := by rw [List.range_succ, List.map_append]; rfl
      rw [← e]
      exact ih k (i + 1) (by omega) (by omega)
  intro k hk
  exact main n k 0 (by omega) hk
theorem state_loop {σ β : Type} (F : Nat → σ → Int → Option β) (s : Nat → σ) (n : Nat) (res : β)
    (hstep : ∀ (k i : Nat), i < n → F (k + 1) (s i) (i : Int) = F k (s (i + 1)) ((i + 1 : Nat) : Int))
    (hend : ∀ k : Nat, F (k + 1) (s n) (n : Int) = some res) : ∀ k : Nat, n < k → F k (s 0) 0 = some res := by
  have main : ∀ (d k i : Nat), i + d = n → d < k → F k (s i) (i : Int) = some res := by
    intro d
    induction d with
    | zero =>
      intro k i h1 hk
      obtain ⟨k, rfl⟩ : ∃ m, k = m + 1 := ⟨k - 1, by omega⟩
      obtain rfl : i = n := by omega
      exact hend k
    | succ d ih =>
      intro k i h1 hk
      obtain ⟨k, rfl⟩ : ∃ m, k = m + 1 := ⟨k - 1, by omega⟩
      rw [hstep k i (by omega)]
      exact ih k (i + 1) (by omega) (by omega)
  intro k hk
  exact main n k 0 (by omega) hk
theorem inR_getD {lo hi : Int} {l : List Int} (h : inR lo hi l = true) (i : Nat) (h' : i < l.length) : lo ≤ l.getD i 0 ∧ l.getD i 0 ≤ hi := by
  have := inR_at h i h'
  simpa [List.getD_eq_getElem?_getD, h'] using this

def oddsL : List Int := [(-1), 0, 1, 2, 255, 256, 65535, 9223372036854775807, (-9223372036854775808), 17, 8, 12]
theorem odd_ok {l : List Int} (hl : BytesL l) {a s b : Int} (hc : CurOk a s b) (hb : b + 2 ≤ 1152921504606846976) : ∃ r a' s', spec_l01Cur_odd.f l a s = some (r, a', s') ∧ (-9223372036854775808 ≤ r ∧ r ≤ 9223372036854775807) ∧ CurOk a' s' (b + 2) := by
  obtain ⟨r, a', s', h, h0, h1, h'⟩ := pick_ok hl 12 hc hb (by omega)
  unfold spec_l01Cur_odd.f
  rw [Option.bind_some, h, Option.bind_some]
  show ∃ r0 a0 s0, (if 0 ≤ r then if r < (oddsL.length : Int) then some (rd oddsL r, a', s') else none else none) = _ ∧ _
  rw [if_pos h0, if_pos (show r < (oddsL.length : Int) by simp [oddsL]; omega)]
  refine ⟨_, _, _, rfl, ?_, h'⟩
  obtain ⟨n, rfl⟩ := Int.eq_ofNat_of_zero_le h0
  have key : ∀ j : Fin 12, -9223372036854775808 ≤ oddsL.getD j.val 0 ∧ oddsL.getD j.val 0 ≤ 9223372036854775807 := by decide +kernel
  rw [rd_getD]
  exact key ⟨n, by omega⟩

theorem drawFrame_loop {l : List Int} (hl : BytesL l) (p w h r : Int) : ∀ (d : Nat) (all a s b : Int) (c : List S66), CurOk a s b → b + 20 * (d : Int) ≤ 1152921504606846976 → c.length + d ≤ 4 → ∃ c' a' s', (∀ k, d < k → spec_l03DrawFrame.l0 k all (d : Int) l a s p w h r c = some (p, w, h, r, c', a', s')) ∧ c'.length = c.length + d ∧ CurOk a' s' (b + 20 * (d : Int)) := by
  intro d
  induction d with
  | zero =>
    intro all a s b c hc hb hl4
    refine ⟨c, a, s, fun k hk => ?_, by omega, by simpa using hc⟩
    obtain ⟨k, rfl⟩ : ∃ m, k = m + 1 := ⟨k - 1, by omega⟩
    rw [spec_l03DrawFrame.l0, if_neg (by omega)]
  | succ d ih =>
    intro all a s b c hc hb hl4
    obtain ⟨r1, a1, s1, e1, _, _, c1⟩ := pick_ok hl 2 hc (by omega) (by omega)
    obtain ⟨r2, a2, s2, e2, _, _, c2⟩ := pick_ok hl 2 c1 (by omega) (by omega)
    obtain ⟨r3, a3, s3, e3, _, _, c3⟩ := pick_ok hl 4 c2 (by omega) (by omega)
    obtain ⟨o, a4, s4, e4, c4⟩ := once_ok hl 12 c3 (by omega) (by omega)
    have hx : wrap64 (((d + 1 : Nat) : Int) - 1) = (d : Int) := by rw [w64 (by omega) (by omega)]; omega
    have fin : ∀ (all' a' s' b' : Int) (x : S66), CurOk a' s' b' → b' ≤ b + 20 → (∀ k, spec_l03DrawFrame.l0 (k + 1) all ((d + 1 : Nat) : Int) l a s p w h r c = spec_l03DrawFrame.l0 k all' (d : Int) l a' s' p w h r (c ++ [x])) → ∃ c' a' s', (∀ k, d + 1 < k → spec_l03DrawFrame.l0 k all ((d + 1 : Nat) : Int) l a s p w h r c = some (p, w, h, r, c', a', s')) ∧ c'.length = c.length + (d + 1) ∧ CurOk a' s' (b + 20 * ((d + 1 : Nat) : Int)) := by
      intro all' a' s' b' x ⟨q1, q2, q3, q4, q5⟩ hb' hs
      obtain ⟨c', a'', s'', e, hl', q⟩ := ih all' a' s' (b + 20) (c ++ [x]) ⟨q1, by omega, by omega, q4, q5⟩ (by omega) (by simp; omega)
      refine ⟨c', a'', s'', fun k hk => ?_, by rw [hl']; simp; omega, ?_⟩
      · obtain ⟨k, rfl⟩ : ∃ m, k = m + 1 := ⟨k - 1, by omega⟩
        rw [hs]; exact e k (by omega)
      · rw [show b + 20 * ((d + 1 : Nat) : Int) = b + 20 + 20 * (d : Int) by omega]; exact q
    by_cases ho : o = true
    · obtain ⟨r5, a5, s5, e5, _, _, c5⟩ := pick_ok hl 4 c4 (by omega) (by omega)
      by_cases hg : wrap64 (all + wrap64 (wrap64 (1 + r5) * wrap64 (1 + r2))) > 10
      · refine fin (wrap64 (all + (1 * 1))) a5 s5 _ ⟨wrap64 (10 * ((d + 1 : Nat) : Int)), 1, 1, r3⟩ c5 (by omega) fun k => ?_
        rw [spec_l03DrawFrame.l0, if_pos (by omega), e1, Option.bind_some, e2, Option.bind_some, e3, Option.bind_some, e4, Option.bind_some, if_pos ho, e5, Option.bind_some, if_pos hg, if_pos (by omega), hx]
      · refine fin (wrap64 (all + wrap64 (wrap64 (1 + r5) * wrap64 (1 + r2)))) a5 s5 _ ⟨wrap64 (10 * ((d + 1 : Nat) : Int)), wrap64 (1 + r5), wrap64 (1 + r2), r3⟩ c5 (by omega) fun k => ?_
        rw [spec_l03DrawFrame.l0, if_pos (by omega), e1, Option.bind_some, e2, Option.bind_some, e3, Option.bind_some, e4, Option.bind_some, if_pos ho, e5, Option.bind_some, if_neg hg, if_pos (by omega), hx]
    · by_cases hg : wrap64 (all + wrap64 (wrap64 (1 + r1) * wrap64 (1 + r2))) > 10
      · refine fin (wrap64 (all + (1 * 1))) a4 s4 _ ⟨wrap64 (10 * ((d + 1 : Nat) : Int)), 1, 1, r3⟩ c4 (by omega) fun k => ?_
        rw [spec_l03DrawFrame.l0, if_pos (by omega), e1, Option.bind_some, e2, Option.bind_some, e3, Option.bind_some, e4, Option.bind_some, if_neg ho, if_pos hg, if_pos (by omega), hx]
      · refine fin (wrap64 (all + wrap64 (wrap64 (1 + r1) * wrap64 (1 + r2)))) a4 s4 _ ⟨wrap64 (10 * ((d + 1 : Nat) : Int)), wrap64 (1 + r1), wrap64 (1 + r2), r3⟩ c4 (by omega) fun k => ?_
        rw [spec_l03DrawFrame.l0, if_pos (by omega), e1, Option.bind_some, e2, Option.bind_some, e3, Option.bind_some, e4, Option.bind_some, if_neg ho, if_neg hg, if_pos (by omega), hx]
theorem drawFrame_ok {l : List Int} (hl : BytesL l) {a s b : Int} (hc : CurOk a s b) (hb : b + 100 ≤ 1152921504606846976) : ∃ p w h r c a' s', (∀ k, 10 ≤ k → spec_l03DrawFrame.f k l a s = some (p, w, h, r, c, a', s')) ∧ 1 ≤ c.length ∧ c.length ≤ 4 ∧ CurOk a' s' (b + 90) := by
  obtain ⟨r1, a1, s1, e1, p1, q1, c1⟩ := pick_ok hl 3 hc (by omega) (by omega)
  obtain ⟨r2, a2, s2, e2, p2, q2, c2⟩ := pick_ok hl 20 c1 (by omega) (by omega)
  obtain ⟨r3, a3, s3, e3, p3, q3, c3⟩ := pick_ok hl 20 c2 (by omega) (by omega)
  obtain ⟨r4, a4, s4, e4, p4, q4, c4⟩ := pick_ok hl 5 c3 (by omega) (by omega)
  obtain ⟨r5, a5, s5, e5, p5, q5, c5⟩ := pick_ok hl 4 c4 (by omega) (by omega)
  obtain ⟨d, hd⟩ : ∃ d : Nat, 1 + r5 = (d : Int) := ⟨(1 + r5).toNat, by omega⟩
  obtain ⟨c', a', s', e, hn, ⟨g1, g2, g3, g4, g5⟩⟩ := drawFrame_loop hl (rd [8, 8, 12] r1) (wrap64 (1 + r2)) (wrap64 (1 + r3)) (rd [0, 0, 1, 2, 5] r4) d 0 a5 s5 (b + 10) [] ⟨c5.1, by have := c5.2.1; omega, by omega, c5.2.2.2⟩ (by omega) (by simp; omega)
  refine ⟨rd [8, 8, 12] r1, wrap64 (1 + r2), wrap64 (1 + r3), rd [0, 0, 1, 2, 5] r4, c', a', s', fun k hk => ?_, by simp at hn; omega, by simp at hn; omega, ⟨g1, by omega, by omega, g4, g5⟩⟩
  unfold spec_l03DrawFrame.f
  rw [Option.bind_some, e1, Option.bind_some, if_pos p1, if_pos (by simpa using q1), e2, Option.bind_some, e3, Option.bind_some, Option.bind_some, e4, Option.bind_some, if_pos p4, if_pos (by simpa using q4), e5, Option.bind_some, w64 (x := 1 + r5) (by omega) (by omega), hd]
  exact e k (by omega)

theorem rest_ok {l : List Int} (hl : BytesL l) (c : List S66) (h4 : c.length ≤ 4) (t1 p w h r x0 x1 x2 x3 : Int) {a s b : Int} (hc : CurOk a s b) (hb : b + 2 ≤ 1152921504606846976) : ∃ p' w' h' r' c' a' s', spec_l03DrawAny.rest l c t1 p w h r x0 x1 x2 x3 a s = some (p', w', h', r', c', a', s') ∧ c'.length ≤ 5 ∧ CurOk a' s' (b + 2) := by
  obtain ⟨o, a1, s1, e1, c1⟩ := once_ok hl 5 hc hb (by omega)
  unfold spec_l03DrawAny.rest
  rw [Option.bind_some, e1, Option.bind_some]
  by_cases ho : o = true
  · rw [if_pos ho, if_pos (by simp; omega)]
    exact ⟨_, _, _, _, _, _, _, rfl, by simp; omega, c1⟩
  · rw [if_neg ho]
    exact ⟨_, _, _, _, _, _, _, rfl, by simp; omega, c1⟩
theorem drawAnyF_ok {l : List Int} (hl : BytesL l) (m : Int) (hm : 1 ≤ m) {a s b : Int} (hc : CurOk a s b) (hb : b + 200 ≤ 1152921504606846976) : ∃ p w h r c a' s', (∀ k, 10 ≤ k → spec_l03DrawAny.f k l a s m = some (p, w, h, r, c, a', s')) ∧ c.length ≤ 5 ∧ CurOk a' s' (b + 150) := by
  obtain ⟨p, w, h, r, c, a0, s0, e, hc1, hc4, c0⟩ := drawFrame_ok hl hc (by omega)
  suffices H : ∃ p w h r c a' s', spec_l03DrawAny.f 10 l a s m = some (p, w, h, r, c, a', s') ∧ c.length ≤ 5 ∧ CurOk a' s' (b + 150) by
    obtain ⟨p, w, h, r, c, a', s', e', h5, c'⟩ := H
    refine ⟨p, w, h, r, c, a', s', fun k hk => ?_, h5, c'⟩
    rw [← e']; unfold spec_l03DrawAny.f; rw [e k hk, e 10 (by omega)]
  have up : ∀ a0 s0 b0 : Int, CurOk a0 s0 b0 → b0 ≤ b + 150 → CurOk a0 s0 (b + 150) := fun a0 s0 b0 ⟨h1, h2, h3, h4, h5⟩ h => ⟨h1, by omega, by omega, h4, h5⟩
  obtain ⟨o, a1, s1, e1, c1⟩ := once_ok hl m c0 (by omega) hm
  unfold spec_l03DrawAny.f
  rw [e 10 (by omega), Option.bind_some, e1, Option.bind_some]
  by_cases ho : ¬ o = true
  · rw [if_neg ho]; exact ⟨p, w, h, r, c, a1, s1, rfl, by omega, up _ _ _ c1 (by omega)⟩
  rw [if_pos (Decidable.not_not.1 ho)]
  obtain ⟨i, a2, s2, e2, p2, q2, c2⟩ := pick_ok hl (c.length : Int) c1 (by omega) (by omega)
  obtain ⟨j, a3, s3, e3, p3, q3, c3⟩ := pick_ok hl 9 c2 (by omega) (by omega)
  rw [e2, Option.bind_some, if_pos p2, if_pos q2, e3, Option.bind_some]
  by_cases h0 : j = 0
  · obtain ⟨z, a4, s4, e4, _, c4⟩ := odd_ok hl c3 (by omega)
    rw [if_pos h0, e4, Option.bind_some]
    obtain ⟨p', w', h', r', c', a', s', e', h5, cc⟩ := rest_ok hl c hc4 i z w h r (rd_T66 c i).f0 (rd_T66 c i).f1 (rd_T66 c i).f2 (rd_T66 c i).f3 c4 (by omega)
    exact ⟨p', w', h', r', c', a', s', e', h5, up _ _ _ cc (by omega)⟩
  rw [if_neg h0]
  by_cases h1 : j = 1
  · obtain ⟨z, a4, s4, e4, _, c4⟩ := odd_ok hl c3 (by omega)
    obtain ⟨n, a5, s5, e5, p5, q5, c5⟩ := pick_ok hl 4 c4 (by omega) (by omega)
    rw [if_pos h1, e4, Option.bind_some, Option.bind_some, e5, Option.bind_some, if_pos p5, if_pos (by simpa using q5)]
    obtain ⟨p', w', h', r', c', a', s', e', h5, cc⟩ := rest_ok hl c hc4 i p (rd [0, 256, 257, z] n) h r (rd_T66 c i).f0 (rd_T66 c i).f1 (rd_T66 c i).f2 (rd_T66 c i).f3 c5 (by omega)
    exact ⟨p', w', h', r', c', a', s', e', h5, up _ _ _ cc (by omega)⟩
  rw [if_neg h1]
  by_cases h2 : j = 2
  · obtain ⟨z, a4, s4, e4, _, c4⟩ := odd_ok hl c3 (by omega)
    obtain ⟨n, a5, s5, e5, p5, q5, c5⟩ := pick_ok hl 4 c4 (by omega) (by omega)
    rw [if_pos h2, e4, Option.bind_some, Option.bind_some, e5, Option.bind_some, if_pos p5, if_pos (by simpa using q5)]
    obtain ⟨p', w', h', r', c', a', s', e', h5, cc⟩ := rest_ok hl c hc4 i p w (rd [0, 256, 257, z] n) r (rd_T66 c i).f0 (rd_T66 c i).f1 (rd_T66 c i).f2 (rd_T66 c i).f3 c5 (by omega)
    exact ⟨p', w', h', r', c', a', s', e', h5, up _ _ _ cc (by omega)⟩
  rw [if_neg h2]
  by_cases h3 : j = 3
  · obtain ⟨z, a4, s4, e4, _, c4⟩ := odd_ok hl c3 (by omega)
    rw [if_pos h3, e4, Option.bind_some]
    obtain ⟨p', w', h', r', c', a', s', e', h5, cc⟩ := rest_ok hl c hc4 i p w h z (rd_T66 c i).f0 (rd_T66 c i).f1 (rd_T66 c i).f2 (rd_T66 c i).f3 c4 (by omega)
    exact ⟨p', w', h', r', c', a', s', e', h5, up _ _ _ cc (by omega)⟩
  rw [if_neg h3]
  by_cases h4 : j = 4
  · obtain ⟨z, a4, s4, e4, _, c4⟩ := odd_ok hl c3 (by omega)
    rw [if_pos h4, e4, Option.bind_some]
    obtain ⟨p', w', h', r', c', a', s', e', h5, cc⟩ := rest_ok hl c hc4 i p w h r z (rd_T66 c i).f1 (rd_T66 c i).f2 (rd_T66 c i).f3 c4 (by omega)
    exact ⟨p', w', h', r', c', a', s', e', h5, up _ _ _ cc (by omega)⟩
  rw [if_neg h4]
  by_cases h5 : j = 5
  · obtain ⟨z, a4, s4, e4, _, c4⟩ := odd_ok hl c3 (by omega)
    rw [if_pos h5, e4, Option.bind_some]
    obtain ⟨p', w', h', r', c', a', s', e', h5, cc⟩ := rest_ok hl c hc4 i p w h r (rd_T66 c i).f0 z (rd_T66 c i).f2 (rd_T66 c i).f3 c4 (by omega)
    exact ⟨p', w', h', r', c', a', s', e', h5, up _ _ _ cc (by omega)⟩
  rw [if_neg h5]
  by_cases h6 : j = 6
  · obtain ⟨n, a5, s5, e5, p5, q5, c5⟩ := pick_ok hl 3 c3 (by omega) (by omega)
    rw [if_pos h6, Option.bind_some, e5, Option.bind_some, if_pos p5, if_pos (by simpa using q5)]
    obtain ⟨p', w', h', r', c', a', s', e', h5, cc⟩ := rest_ok hl c hc4 i p w h r (rd_T66 c i).f0 (rd_T66 c i).f1 (rd [0, 4, 5] n) (rd_T66 c i).f3 c5 (by omega)
    exact ⟨p', w', h', r', c', a', s', e', h5, up _ _ _ cc (by omega)⟩
  rw [if_neg h6]
  by_cases h7 : j = 7
  · obtain ⟨n, a5, s5, e5, p5, q5, c5⟩ := pick_ok hl 3 c3 (by omega) (by omega)
    rw [if_pos h7, Option.bind_some, e5, Option.bind_some, if_pos p5, if_pos (by simpa using q5)]
    obtain ⟨p', w', h', r', c', a', s', e', h5, cc⟩ := rest_ok hl c hc4 i p w h r (rd_T66 c i).f0 (rd_T66 c i).f1 (rd_T66 c i).f2 (rd [-1, 3, 4] n) c5 (by omega)
    exact ⟨p', w', h', r', c', a', s', e', h5, up _ _ _ cc (by omega)⟩
  rw [if_neg h7]
  obtain ⟨n, a5, s5, e5, p5, q5, c5⟩ := pick_ok hl 2 c3 (by omega) (by omega)
  rw [e5, Option.bind_some]
  obtain ⟨p', w', h', r', c', a', s', e', h5, cc⟩ := rest_ok hl c hc4 i p 128 (wrap64 (128 + n)) r (rd_T66 c i).f0 (rd_T66 c i).f1 (rd_T66 c i).f2 (rd_T66 c i).f3 c5 (by omega)
  exact ⟨p', w', h', r', c', a', s', e', h5, up _ _ _ cc (by omega)⟩

theorem bytes_app {l m : List Int} (hl : BytesL l) (hm : BytesL m) (h : l.length + m.length ≤ 1048576) : BytesL (l ++ m) := ⟨by simp; omega, fun x hx => by rcases List.mem_append.1 hx with h | h; (exact hl.2 x h); exact hm.2 x h⟩
theorem bytes_take {l : List Int} (hl : BytesL l) (n : Nat) : BytesL (l.take n) := ⟨by have := hl.1; simp; omega, fun x hx => hl.2 x (List.mem_of_mem_take hx)⟩
theorem bytes_drop {l : List Int} (hl : BytesL l) (n : Nat) : BytesL (l.drop n) := ⟨by have := hl.1; simp; omega, fun x hx => hl.2 x (List.mem_of_mem_drop hx)⟩
theorem bytes_one {x : Int} (h : 0 ≤ x ∧ x ≤ 255) : BytesL [x] := ⟨by simp, fun y hy => by simp at hy; omega⟩
theorem lit5 {x1 x2 : Int} (h1 : 0 ≤ x1 ∧ x1 ≤ 255) (h2 : 0 ≤ x2 ∧ x2 < 256) {n : Int} (p : 0 ≤ n) (q : n < 5) : 0 ≤ rd [255, 0, 254, x1, x2 % 256] n ∧ rd [255, 0, 254, x1, x2 % 256] n ≤ 255 := by
  rcases (show n = 0 ∨ n = 1 ∨ n = 2 ∨ n = 3 ∨ n = 4 by omega) with rfl | rfl | rfl | rfl | rfl
  · show (0 : Int) ≤ 255 ∧ (255 : Int) ≤ 255; omega
  · show (0 : Int) ≤ 0 ∧ (0 : Int) ≤ 255; omega
  · show (0 : Int) ≤ 254 ∧ (254 : Int) ≤ 255; omega
  · exact h1
  · show 0 ≤ x2 % 256 ∧ x2 % 256 ≤ 255; omega
theorem spoil_ok {l : List Int} (hl : BytesL l) (m : List Int) (hm : BytesL m) (hm2 : m.length ≤ 1000) {a s b : Int} (hc : CurOk a s b) (hb : b + 20 ≤ 1152921504606846976) : ∃ t a' s', spec_l02Spoil.f l a s m = some (t, a', s') ∧ BytesL t ∧ t.length ≤ 2100 := by
  unfold spec_l02Spoil.f
  by_cases h0 : (m.length : Int) = 0
  · rw [if_pos h0]; exact ⟨_, _, _, rfl, hm, by omega⟩
  obtain ⟨n, a1, s1, e1, p1, q1, c1⟩ := pick_ok hl (m.length : Int) hc (by omega) (by omega)
  obtain ⟨j, a2, s2, e2, p2, q2, c2⟩ := pick_ok hl 4 c1 (by omega) (by omega)
  have hw : wrap64 (n + 1) = n + 1 := w64 (by omega) (by omega)
  have ht := bytes_take hm n.toNat
  have hd := bytes_drop hm n.toNat
  have hd1 := bytes_drop hm (n + 1).toNat
  rw [if_neg h0, e1, Option.bind_some, Option.bind_some, if_pos p1, if_pos (by omega), Option.bind_some, if_pos (by simp; omega), Option.bind_some, List.nil_append, e2, Option.bind_some, hw]
  by_cases h1 : j = 0
  · rw [if_pos h1, if_pos (by omega), if_pos (by omega), Option.bind_some, if_pos (by simp; omega)]
    exact ⟨_, _, _, rfl, bytes_app ht hd1 (by simp; omega), by simp; omega⟩
  rw [if_neg h1]
  by_cases h2 : j = 1
  · obtain ⟨z, a3, s3, e3, p3, q3, c3⟩ := pick_ok hl 256 c2 (by omega) (by omega)
    obtain ⟨i, a4, s4, e4, p4, q4, c4⟩ := pick_ok hl 5 c3 (by omega) (by omega)
    rw [if_pos h2, e3, Option.bind_some, Option.bind_some, e4, Option.bind_some, if_pos p4, if_pos (by simpa using q4), if_pos (by simp; omega), Option.bind_some, Option.bind_some, if_pos (by simp; omega)]
    exact ⟨_, _, _, rfl, bytes_app (bytes_app ht (bytes_one (lit5 (by omega) ⟨p3, q3⟩ p4 q4)) (by simp; omega)) hd (by simp; omega), by simp; omega⟩
  rw [if_neg h2]
  by_cases h3 : j = 2
  · obtain ⟨z, a3, s3, e3, p3, q3, c3⟩ := pick_ok hl 256 c2 (by omega) (by omega)
    obtain ⟨i, a4, s4, e4, p4, q4, c4⟩ := pick_ok hl 5 c3 (by omega) (by omega)
    rw [if_pos h3, e3, Option.bind_some, Option.bind_some, e4, Option.bind_some, if_pos p4, if_pos (by simpa using q4), if_pos (by simp; omega), Option.bind_some, if_pos (by omega), if_pos (by omega), Option.bind_some, if_pos (by simp; omega)]
    exact ⟨_, _, _, rfl, bytes_app (bytes_app ht (bytes_one (lit5 (by omega) ⟨p3, q3⟩ p4 q4)) (by simp; omega)) hd1 (by simp; omega), by simp; omega⟩
  rw [if_neg h3]
  exact ⟨_, _, _, rfl, ht, by simp; omega⟩

theorem sameFrame_loop (p w h r p' w' h' r' : Int) (c : List S66) (hc : c.length ≤ 1000) : ∀ (d k i : Nat), i + d = c.length → d < k → laws_sameFrame.l0 k (i : Int) p w h r c p' w' h' r' c = some true := by
  intro d
  induction d with
  | zero =>
    intro k i hi hk
    obtain ⟨k, rfl⟩ : ∃ m, k = m + 1 := ⟨k - 1, by omega⟩
    rw [laws_sameFrame.l0, if_neg (by omega)]
  | succ d ih =>
    intro k i hi hk
    obtain ⟨k, rfl⟩ : ∃ m, k = m + 1 := ⟨k - 1, by omega⟩
    rw [laws_sameFrame.l0, if_pos (by omega), if_pos (by omega), if_pos (by omega), if_neg (by simp), wsucc (by omega)]
    exact ih k (i + 1) (by omega) (by omega)
theorem sameFrame_refl (p w h r : Int) (c : List S66) (hc : c.length ≤ 1000) (k : Nat) (hk : c.length + 1 < k) : laws_sameFrame.f k p w h r c p w h r c = some true := by
  obtain ⟨k, rfl⟩ : ∃ m, k = m + 1 := ⟨k - 1, by omega⟩
  unfold laws_sameFrame.f
  rw [if_pos rfl, if_pos rfl, if_pos rfl, if_pos rfl, laws_sameFrame.j0, if_neg (by simp)]
  exact sameFrame_loop p w h r p w h r c hc c.length k 0 (by omega) (by omega)

theorem sameBytes_loop (l : List Int) (hl : l.length ≤ 4611686018427387904) : ∀ (d k i : Nat), i + d = l.length → d < k → laws_sameBytes.l0 k l l (i : Int) = some true := by
  intro d
  induction d with
  | zero =>
    intro k i hi hk
    obtain ⟨k, rfl⟩ : ∃ m, k = m + 1 := ⟨k - 1, by omega⟩
    rw [laws_sameBytes.l0, if_neg (by omega)]
  | succ d ih =>
    intro k i hi hk
    obtain ⟨k, rfl⟩ : ∃ m, k = m + 1 := ⟨k - 1, by omega⟩
    rw [laws_sameBytes.l0, if_pos (by omega), if_pos (by omega), if_pos (by omega), if_pos rfl, wsucc (by omega)]
    exact ih k (i + 1) (by omega) (by omega)
theorem sameBytes_refl (l : List Int) (hl : l.length ≤ 4611686018427387904) (k : Nat) (hk : l.length < k) : laws_sameBytes.f k l l = some true := by
  unfold laws_sameBytes.f
  rw [if_pos rfl]
  exact sameBytes_loop l hl l.length k 0 (by omega) hk

theorem drawRead_ok {l : List Int} (hl : BytesL l) : ∃ t, (∀ k, 500 ≤ k → spec_DrawReadFrame.f k l = some t) ∧ BytesL t ∧ t.length ≤ 2100 := by
  obtain ⟨s, e0, c0⟩ := open_ok hl
  obtain ⟨p, w, h, r, c, a1, s1, e1, h1, c1⟩ := drawAnyF_ok hl 12 (by omega) c0 (by omega)
  obtain ⟨o, a2, s2, e2, c2⟩ := once_ok hl 2 c1 (by omega) (by omega)
  have hw := wfR_len p w h r c
  by_cases ho : o = true
  · obtain ⟨t, a3, s3, e3, hb, hn⟩ := spoil_ok hl (wfR p w h r c) wf_bytes (by omega) c2 (by omega)
    refine ⟨t, fun k hk => ?_, hb, hn⟩
    unfold spec_DrawReadFrame.f
    rw [e0, Option.bind_some, e1 k (by omega), Option.bind_some, specWF_eq p w h r c k (by omega), Option.bind_some, e2, Option.bind_some, if_pos ho, e3, Option.bind_some]
  · refine ⟨wfR p w h r c, fun k hk => ?_, wf_bytes, by omega⟩
    unfold spec_DrawReadFrame.f
    rw [e0, Option.bind_some, e1 k (by omega), Option.bind_some, specWF_eq p w h r c k (by omega), Option.bind_some, e2, Option.bind_some, if_neg ho]
theorem back2 {l : List Int} (hl : BytesL l) (k : Nat) (hk : 4000 ≤ k) : laws_FnFrameBack.j1 k l = some true := by
  obtain ⟨k, rfl⟩ : ∃ m, k = m + 1 := ⟨k - 1, by omega⟩
  obtain ⟨t, e0, hb, hn⟩ := drawRead_ok hl
  have hrl := readR_len4 t
  have e1 := implRF_eq hb k (by omega)
  have e2 := specRF_eq hb k (by omega)
  have e4 : (readR t).2.2.2.2.2 = true → wfR (readR t).1 (readR t).2.1 (readR t).2.2.1 (readR t).2.2.2.1 (readR t).2.2.2.2.1 = t := fun h => wfR_readR hb (by rw [← h])
  rw [laws_FnFrameBack.j1, e0 k (by omega), Option.bind_some, e1, Option.bind_some, e2, Option.bind_some, if_pos (by simp), sameFrame_refl _ _ _ _ _ (by omega) k (by omega), Option.bind_some, if_pos rfl]
  by_cases ho : (readR t).2.2.2.2.2 = true
  · rw [if_pos ho, implWF_eq _ _ _ _ _ k (by omega), Option.bind_some, e4 ho, sameBytes_refl t (by omega) k (by omega), Option.bind_some]
  · rw [if_neg ho]
theorem FnFrameBack : laws_FnFrameBack.Pure := by
  intro l0 l1 hm0 _ hw0 hm1 _ hw1
  refine ⟨5001, ?_⟩
  unfold laws_FnFrameBack.f
  by_cases h0 : (l0.length : Int) > 1048576
  · rw [laws_big.f, Option.bind_some, if_pos (by simpa using h0), laws_FnFrameBack.j0, if_pos rfl]
  rw [laws_big.f, Option.bind_some, if_neg (by simpa using h0)]
  by_cases h1 : (l1.length : Int) > 1048576
  · rw [laws_big.f, Option.bind_some, laws_FnFrameBack.j0, if_pos (by simpa using h1)]
  rw [laws_big.f, Option.bind_some, laws_FnFrameBack.j0, if_neg (by simpa using h1)]
  have hb0 : BytesL l0 := ⟨by omega, fun x hx => wfu8 (hw0 x hx)⟩
  have hb1 : BytesL l1 := ⟨by omega, fun x hx => wfu8 (hw1 x hx)⟩
  obtain ⟨s, e0, c0⟩ := open_ok hb0
  obtain ⟨p, w, h, r, c, a1, s1, e1, hn, c1⟩ := drawAnyF_ok hb0 4 (by omega) c0 (by omega)
  have hd : spec_DrawWriteFrame.f 5000 l0 = some (p, w, h, r, c) := by
    unfold spec_DrawWriteFrame.f
    rw [e0, Option.bind_some, e1 5000 (by omega), Option.bind_some]
  have hwl := wfR_len p w h r c
  rw [hd, Option.bind_some, implWF_eq p w h r c 5000 (by omega), Option.bind_some, specWF_eq p w h r c 5000 (by omega), Option.bind_some, sameBytes_refl _ (by omega) 5000 (by omega), Option.bind_some, if_pos rfl, specFrame_eq p w h r c 5000 (by omega), Option.bind_some]
  by_cases hf : frameB p w h r c = true
  · rw [if_pos hf, implRF_eq wf_bytes 5000 (by omega), Option.bind_some, readR_wfR hf, if_pos rfl, sameFrame_refl p w h r c (by omega) 5000 (by omega), Option.bind_some, if_pos rfl]
    exact back2 hb1 5000 (by omega)
  · rw [if_neg hf]
    exact back2 hb1 5000 (by omega)

end Go.Proofs.Ytbhfimbikooccaa.Pure
