/- The pure statement of the law FnPlaces, for every input that its guards let in. -/
import Derived.Test.YtbhfimbikooccaaPFnPlacesx16
import Derived.Test.YtbhfimbikooccaaVFnPlaces
-- The printed row names this word without its seat: the same fact under that name.
namespace Go.Proofs.PrintWords
theorem sized_ints {H : Type} {enc : TypeId × Value → H} {P : Program} {W : World} {base : Nat} {spare : Nat → Bool} {held : Bool} {t e : TypeId} {k : IntKind} {a : Option Addr} {len cap : Nat} {d : DataW H} {ps : List MemPlace} {ts : List TypeId} {ds : List (DataW H)} {j : Nat} (hsz : (DataW.weightsEach P ts ds).all (· ≤ reachBytes) = true) (ht : ts[j]? = some t) (hd : ds[j]? = some d) (hu : P.underlying t = some (.slice e)) (he : P.underlying e = some (.int k)) (hc : P.cellsOf e = 1) {B : Nat} (hB : P.bytesOf e = B) (h : DataW.Trod enc P W base spare held t (.slice a len cap) d ps) : len * B ≤ 140737488351232 := Go.Proofs.YtbhfimbikooccaaW.PrintWords.sized_ints hsz ht hd hu he hc hB h
end Go.Proofs.PrintWords
namespace Go.Proofs.Ytbhfimbikooccaa.Pure
open Go.RowKit Go.Proofs.Ytbhfimbikooccaa.PFnPlaces Go.Proofs.YtbhfimbikooccaaW.PrintWords Go.Proofs.YtbhfimbikooccaaW.PrintLast Go.Proofs.YtbhfimbikooccaaW.PrintMore
set_option linter.unusedVariables false
set_option linter.unusedSimpArgs false
set_option maxRecDepth 4000

theorem w64 {x : Int} (h1 : -9223372036854775808 ≤ x) (h2 : x ≤ 9223372036854775807) : wrap64 x = x := by unfold wrap64; omega
theorem wsucc {i : Nat} (h : i ≤ 4611686018427387904) : wrap64 ((i : Int) + 1) = ((i + 1 : Nat) : Int) := by unfold wrap64; omega
theorem rd_nat (l : List Int) (i : Nat) (h : i < l.length) : rd l (i : Int) = l[i] := by simp [rd, List.getD_eq_getElem?_getD, h]
theorem drop_at {α : Type} (l : List α) (i : Nat) (h : i < l.length) : l.drop i = l[i] :: l.drop (i + 1) := List.drop_eq_getElem_cons h
theorem wf64 {x : Int} (h : (Lit.int .i64 x).wf = true) : -9223372036854775808 ≤ x ∧ x ≤ 9223372036854775807 := by
  simp [Lit.wf, IntKind.min, IntKind.max, IntKind.bits, IntKind.signed] at h; omega
theorem wfu8 {x : Int} (h : (Lit.int .u8 x).wf = true) : 0 ≤ x ∧ x ≤ 255 := by
  simp [Lit.wf, IntKind.min, IntKind.max, IntKind.bits, IntKind.signed] at h; omega

theorem between_eq (a lo hi : Int) : spec_l01Between.f a lo hi = some (decide (lo ≤ a ∧ a ≤ hi)) := by
  unfold spec_l01Between.f
  by_cases h : a ≥ lo
  · rw [if_pos h]; congr 1; simp; omega
  · rw [if_neg h]; congr 1; simp; omega

theorem within_eq (a lo hi : Int) : impl_within.f a lo hi = some (decide (lo ≤ a ∧ a ≤ hi)) := by
  unfold impl_within.f
  by_cases h : a ≥ lo
  · rw [if_pos h]; congr 1; simp; omega
  · rw [if_neg h]; congr 1; simp; omega

def compOk (x : S66) : Bool := decide (0 ≤ x.f0 ∧ x.f0 ≤ 255) && (decide (1 ≤ x.f1 ∧ x.f1 ≤ 4) && (decide (1 ≤ x.f2 ∧ x.f2 ≤ 4) && decide (0 ≤ x.f3 ∧ x.f3 ≤ 3)))
theorem compOk_iff {x : S66} : compOk x = true ↔ (0 ≤ x.f0 ∧ x.f0 ≤ 255) ∧ (1 ≤ x.f1 ∧ x.f1 ≤ 4) ∧ (1 ≤ x.f2 ∧ x.f2 ≤ 4) ∧ (0 ≤ x.f3 ∧ x.f3 ≤ 3) := by simp [compOk]
def frameL : List S66 → List S66 → Int → Bool
  | _, [], s => decide (s ≤ 10)
  | pre, x :: xs, s => compOk x && (!(pre.any fun y => y.f0 == x.f0) && frameL (pre ++ [x]) xs (s + x.f1 * x.f2))
def frameB (p w h r : Int) (l : List S66) : Bool := decide (p = 8 ∨ p = 12) && (decide (1 ≤ w ∧ w ≤ 256) && (decide (1 ≤ h ∧ h ≤ 256) && (decide (w * h ≤ 16384) && (decide (0 ≤ r ∧ r ≤ 255) && (decide (1 ≤ (l.length : Int) ∧ (l.length : Int) ≤ 4) && frameL [] l 0)))))
theorem rdC_nat (l : List S66) (i : Nat) (h : i < l.length) : rd_T66 l (i : Int) = l[i] := by simp [rd_T66, List.getD_eq_getElem?_getD, h]
theorem mul4 {a b : Int} (ha : 1 ≤ a ∧ a ≤ 4) (hb : 1 ≤ b ∧ b ≤ 4) : 1 ≤ a * b ∧ a * b ≤ 16 := by
  have h1 : (1 : Int) * 1 ≤ a * b := Int.mul_le_mul ha.1 hb.1 (by omega) (by omega)
  have h2 : a * b ≤ 4 * 4 := Int.mul_le_mul ha.2 hb.2 (by omega) (by omega)
  omega
theorem specFr_l1 (p w h r : Int) (l : List S66) (hl : l.length ≤ 4) (x : S66) (i : Nat) (hi : i ≤ l.length) (s : Int) : ∀ (d k j : Nat), j + d = i → spec_FrameOk.l1 (k + d + 1) s (i : Int) (j : Int) p w h r l x.f0 x.f1 x.f2 x.f3 = if ((l.take i).drop j).any (fun y => y.f0 == x.f0) then some false else spec_FrameOk.l0 k (wrap64 (s + wrap64 (x.f1 * x.f2))) (wrap64 ((i : Int) + 1)) p w h r l := by
  intro d
  induction d with
  | zero =>
    intro k j hj
    rw [spec_FrameOk.l1, if_neg (by omega), List.drop_eq_nil_of_le (by simp; omega)]; rfl
  | succ d ih =>
    intro k j hj
    have hjl : j < (l.take i).length := by simp; omega
    rw [show k + (d + 1) + 1 = (k + d + 1) + 1 by omega, spec_FrameOk.l1, if_pos (by omega), if_pos (by omega), if_pos (by omega), rdC_nat l j (by omega), drop_at (l.take i) j hjl, List.any_cons, List.getElem_take]
    by_cases he : l[j].f0 = x.f0
    · rw [if_pos he, if_pos (by simp [he])]
    · rw [if_neg he, wsucc (by omega), ih k (j + 1) (by omega)]
      have : (l[j].f0 == x.f0) = false := beq_eq_false_iff_ne.mpr he
      rw [this, Bool.false_or]
theorem specFr_l0 (p w h r : Int) (l : List S66) (hl : l.length ≤ 4) : ∀ (d k i : Nat) (s : Int), i + d = l.length → 10 * (d + 1) ≤ k → 0 ≤ s → s ≤ 16 * (i : Int) → spec_FrameOk.l0 k s (i : Int) p w h r l = some (frameL (l.take i) (l.drop i) s) := by
  intro d
  induction d with
  | zero =>
    intro k i s hi hk h0 hs
    obtain ⟨k, rfl⟩ : ∃ m, k = m + 1 := ⟨k - 1, by omega⟩
    rw [spec_FrameOk.l0, if_neg (by omega), List.drop_eq_nil_of_le (by omega), frameL]
  | succ d ih =>
    intro k i s hi hk h0 hs
    obtain ⟨k, rfl⟩ : ∃ m, k = m + 1 := ⟨k - 1, by omega⟩
    have hil : i < l.length := by omega
    have hstep : spec_FrameOk.l0 (k + 1) s (i : Int) p w h r l = spec_FrameOk.j2 k s (i : Int) (!compOk l[i]) p w h r l l[i].f0 l[i].f1 l[i].f2 l[i].f3 := by
      rw [spec_FrameOk.l0, if_pos (by omega), if_pos (by omega), rdC_nat l i hil, between_eq, between_eq, between_eq, between_eq]
      simp only [Option.bind_some, compOk]
      generalize decide (0 ≤ l[i].f0 ∧ l[i].f0 ≤ 255) = b1
      generalize decide (1 ≤ l[i].f1 ∧ l[i].f1 ≤ 4) = b2
      generalize decide (1 ≤ l[i].f2 ∧ l[i].f2 ≤ 4) = b3
      generalize decide (0 ≤ l[i].f3 ∧ l[i].f3 ≤ 3) = b4
      cases b1 <;> cases b2 <;> cases b3 <;> rfl 
    rw [hstep, drop_at l i hil, frameL]
    obtain ⟨k, rfl⟩ : ∃ m, k = m + 1 := ⟨k - 1, by omega⟩
    by_cases hc : compOk l[i] = true
    · obtain ⟨_, g1, g2, _⟩ := compOk_iff.1 hc
      have hm := mul4 g1 g2
      rw [hc, spec_FrameOk.j2, if_neg (by decide), Bool.true_and]
      obtain ⟨k, rfl⟩ : ∃ m, k = m + i + 1 := ⟨k - i - 1, by omega⟩
      have e := specFr_l1 p w h r l hl l[i] i (by omega) s i k 0 (by omega)
      rw [List.drop_zero] at e
      refine e.trans ?_
      rw [w64 (x := l[i].f1 * l[i].f2) (by omega) (by omega), w64 (by omega) (by omega), wsucc (by omega)]
      by_cases ha : (l.take i).any (fun y => y.f0 == l[i].f0) = true
      · rw [if_pos ha, ha]; rfl
      · have ha' : (l.take i).any (fun y => y.f0 == l[i].f0) = false := by simpa using ha
        rw [if_neg ha, ha', ih k (i + 1) _ (by omega) (by omega) (by omega) (by omega), List.take_succ_eq_append_getElem hil]; rfl
    · have hc : compOk l[i] = false := by simpa using hc
      rw [hc, spec_FrameOk.j2, if_pos (by rfl), Bool.false_and]
theorem implFr_l0 (p w h r : Int) (l : List S66) (hl : l.length ≤ 4) : ∀ (d k i : Nat) (s : Int), i + d = l.length → 10 * (d + 1) ≤ k → 0 ≤ s → s ≤ 16 * (i : Int) → impl_FrameOk.l0 k s l (l.length : Int) (i : Int) p w h r l = some (frameL (l.take i) (l.drop i) s) := by
  intro d
  induction d with
  | zero =>
    intro k i s hi hk h0 hs
    obtain ⟨k, rfl⟩ : ∃ m, k = m + 1 := ⟨k - 1, by omega⟩
    rw [impl_FrameOk.l0, if_neg (by omega), List.drop_eq_nil_of_le (by omega), frameL]
  | succ d ih =>
    intro k i s hi hk h0 hs
    obtain ⟨k, rfl⟩ : ∃ m, k = m + 1 := ⟨k - 1, by omega⟩
    have hil : i < l.length := by omega
    have hstep : impl_FrameOk.l0 (k + 1) s l (l.length : Int) (i : Int) p w h r l = impl_FrameOk.j2 k s (i : Int) l (l.length : Int) (i : Int) (!compOk l[i]) p w h r l l[i].f0 l[i].f1 l[i].f2 l[i].f3 := by
      rw [impl_FrameOk.l0, if_pos (by omega), if_pos (by omega), if_pos (by omega), rdC_nat l i hil, within_eq, within_eq, within_eq, within_eq]
      simp only [Option.bind_some, compOk]
      generalize decide (0 ≤ l[i].f0 ∧ l[i].f0 ≤ 255) = b1
      generalize decide (1 ≤ l[i].f1 ∧ l[i].f1 ≤ 4) = b2
      generalize decide (1 ≤ l[i].f2 ∧ l[i].f2 ≤ 4) = b3
      generalize decide (0 ≤ l[i].f3 ∧ l[i].f3 ≤ 3) = b4
      cases b1 <;> cases b2 <;> cases b3 <;> rfl
    rw [hstep, drop_at l i hil, frameL]
    obtain ⟨k, rfl⟩ : ∃ m, k = m + 1 := ⟨k - 1, by omega⟩
    by_cases hc : compOk l[i] = true
    · obtain ⟨_, g1, g2, _⟩ := compOk_iff.1 hc
      have hm := mul4 g1 g2
      rw [hc, impl_FrameOk.j2, if_neg (by decide), if_pos (by omega), if_pos (by omega), slices_Has54.f, Option.bind_some, Bool.true_and, Int.toNat_natCast, w64 (x := l[i].f1 * l[i].f2) (by omega) (by omega), w64 (by omega) (by omega), wsucc (by omega)]
      by_cases ha : (l.take i).any (fun y => y.f0 == l[i].f0) = true
      · rw [if_pos ha, ha]; rfl
      · have ha' : (l.take i).any (fun y => y.f0 == l[i].f0) = false := by simpa using ha
        rw [if_neg ha, ha', ih k (i + 1) _ (by omega) (by omega) (by omega) (by omega), List.take_succ_eq_append_getElem hil]; rfl
    · have hc : compOk l[i] = false := by simpa using hc
      rw [hc, impl_FrameOk.j2, if_pos (by rfl), Bool.false_and]
theorem mul256 {a b : Int} (ha : 1 ≤ a ∧ a ≤ 256) (hb : 1 ≤ b ∧ b ≤ 256) : 1 ≤ a * b ∧ a * b ≤ 65536 := by
  have h1 : (1 : Int) * 1 ≤ a * b := Int.mul_le_mul ha.1 hb.1 (by omega) (by omega)
  have h2 : a * b ≤ 256 * 256 := Int.mul_le_mul ha.2 hb.2 (by omega) (by omega)
  omega
theorem specFrame_eq (p w h r : Int) (l : List S66) (k : Nat) (hk : 100 ≤ k) : spec_FrameOk.f k p w h r l = some (frameB p w h r l) := by
  obtain ⟨k, rfl⟩ : ∃ m, k = m + 1 := ⟨k - 1, by omega⟩
  have jt : ∀ p : Int, spec_FrameOk.j0 (k + 1) true p w h r l = some false := by intro p; rw [spec_FrameOk.j0, if_pos rfl]
  have jf : l.length ≤ 4 → ∀ p : Int, spec_FrameOk.j0 (k + 1) false p w h r l = some (frameL [] l 0) := by
    intro hl p
    rw [spec_FrameOk.j0, if_neg (by decide)]
    exact specFr_l0 p w h r l hl l.length k 0 0 (by omega) (by omega) (by omega) (by omega)
  unfold spec_FrameOk.f frameB
  simp only [between_eq, Option.bind_some]
  by_cases c1 : 1 ≤ w ∧ w ≤ 256
  · by_cases c2 : 1 ≤ h ∧ h ≤ 256
    · have hm := mul256 c1 c2
      rw [w64 (x := w * h) (by omega) (by omega)]
      by_cases c3 : w * h > 16384
      · have c3' : ¬ w * h ≤ 16384 := by omega
        by_cases q8 : p = 8 <;> by_cases q12 : p = 12 <;> simp [c1, c2, c3, c3', jt, q8, q12]
      · have c3' : w * h ≤ 16384 := by omega
        by_cases c4 : 0 ≤ r ∧ r ≤ 255
        · by_cases c5 : 1 ≤ (l.length : Int) ∧ (l.length : Int) ≤ 4
          · have hj := jf (by omega)
            rw [decide_eq_true c1, decide_eq_true c2, decide_eq_true c3', decide_eq_true c4, decide_eq_true c5, if_neg c3]
            by_cases q8 : p = 8 <;> by_cases q12 : p = 12 <;> simp [jt, hj, q8, q12]
          · rw [decide_eq_true c1, decide_eq_true c2, decide_eq_true c3', decide_eq_true c4, decide_eq_false c5, if_neg c3]
            by_cases q8 : p = 8 <;> by_cases q12 : p = 12 <;> simp [jt, q8, q12]
        · rw [decide_eq_true c1, decide_eq_true c2, decide_eq_true c3', decide_eq_false c4, if_neg c3]
          by_cases q8 : p = 8 <;> by_cases q12 : p = 12 <;> simp [jt, q8, q12]
    · rw [decide_eq_true c1, decide_eq_false c2]
      by_cases q8 : p = 8 <;> by_cases q12 : p = 12 <;> simp [jt, q8, q12]
  · rw [decide_eq_false c1]
    by_cases q8 : p = 8 <;> by_cases q12 : p = 12 <;> simp [jt, q8, q12]
theorem implFrame_eq (p w h r : Int) (l : List S66) (k : Nat) (hk : 100 ≤ k) : impl_FrameOk.f k p w h r l = some (frameB p w h r l) := by
  obtain ⟨k, rfl⟩ : ∃ m, k = m + 1 := ⟨k - 1, by omega⟩
  have jt : ∀ p : Int, impl_FrameOk.j0 (k + 1) true p w h r l = some false := by intro p; rw [impl_FrameOk.j0, if_pos rfl]
  have jf : l.length ≤ 4 → ∀ p : Int, impl_FrameOk.j0 (k + 1) false p w h r l = some (frameL [] l 0) := by
    intro hl p
    rw [impl_FrameOk.j0, if_neg (by decide)]
    exact implFr_l0 p w h r l hl l.length k 0 0 (by omega) (by omega) (by omega) (by omega)
  unfold impl_FrameOk.f frameB
  simp only [within_eq, Option.bind_some]
  by_cases c1 : 1 ≤ w ∧ w ≤ 256
  · by_cases c2 : 1 ≤ h ∧ h ≤ 256
    · have hm := mul256 c1 c2
      rw [w64 (x := w * h) (by omega) (by omega)]
      by_cases c3 : w * h > 16384
      · have c3' : ¬ w * h ≤ 16384 := by omega
        by_cases q8 : p = 8 <;> by_cases q12 : p = 12 <;> simp [c1, c2, c3, c3', jt, q8, q12]
      · have c3' : w * h ≤ 16384 := by omega
        by_cases c4 : 0 ≤ r ∧ r ≤ 255
        · by_cases c5 : 1 ≤ (l.length : Int) ∧ (l.length : Int) ≤ 4
          · have hj := jf (by omega)
            rw [decide_eq_true c1, decide_eq_true c2, decide_eq_true c3', decide_eq_true c4, decide_eq_true c5, if_neg c3]
            by_cases q8 : p = 8 <;> by_cases q12 : p = 12 <;> simp [jt, hj, q8, q12]
          · rw [decide_eq_true c1, decide_eq_true c2, decide_eq_true c3', decide_eq_true c4, decide_eq_false c5, if_neg c3]
            by_cases q8 : p = 8 <;> by_cases q12 : p = 12 <;> simp [jt, q8, q12]
        · rw [decide_eq_true c1, decide_eq_true c2, decide_eq_true c3', decide_eq_false c4, if_neg c3]
          by_cases q8 : p = 8 <;> by_cases q12 : p = 12 <;> simp [jt, q8, q12]
    · rw [decide_eq_true c1, decide_eq_false c2]
      by_cases q8 : p = 8 <;> by_cases q12 : p = 12 <;> simp [jt, q8, q12]
  · rw [decide_eq_false c1]
    by_cases q8 : p = 8 <;> by_cases q12 : p = 12 <;> simp [jt, q8, q12]
theorem frameB_iff {p w h r : Int} {l : List S66} : frameB p w h r l = true ↔ (p = 8 ∨ p = 12) ∧ (1 ≤ w ∧ w ≤ 256) ∧ (1 ≤ h ∧ h ≤ 256) ∧ w * h ≤ 16384 ∧ (0 ≤ r ∧ r ≤ 255) ∧ (1 ≤ (l.length : Int) ∧ (l.length : Int) ≤ 4) ∧ frameL [] l 0 = true := by
  simp [frameB]

theorem tdw {x y : Int} (h0 : 0 ≤ x) (h1 : x ≤ 4611686018427387904) (hy : 0 < y) : wrap64 (Int.tdiv x y) = x / y := by
  rw [Int.tdiv_eq_ediv_of_nonneg h0]
  have a := Int.ediv_nonneg h0 (Int.le_of_lt hy)
  have b := Int.ediv_le_self y h0
  exact w64 (by omega) (by omega)
theorem div_bd {x y : Int} (h0 : 0 ≤ x) (hy : 0 < y) : 0 ≤ x / y ∧ x / y ≤ x := ⟨Int.ediv_nonneg h0 (Int.le_of_lt hy), Int.ediv_le_self y h0⟩

theorem frameL_ok : ∀ (l pre : List S66) (s : Int), frameL pre l s = true → ∀ x ∈ l, compOk x = true
  | [], _, _, _ => by simp
  | y :: ys, pre, s, h => by
    unfold frameL at h
    rw [Bool.and_eq_true, Bool.and_eq_true] at h
    intro x hx
    rcases List.mem_cons.1 hx with rfl | hx
    · exact h.1
    · exact frameL_ok ys _ _ h.2.2 x hx
theorem frameB_ok {p w h r : Int} {l : List S66} (hb : frameB p w h r l = true) : ∀ x ∈ l, compOk x = true := by
  unfold frameB at hb
  simp only [Bool.and_eq_true] at hb
  exact frameL_ok l [] 0 hb.2.2.2.2.2.2
theorem frameB_parts {p w h r : Int} {l : List S66} (hb : frameB p w h r l = true) : (1 ≤ w ∧ w ≤ 256) ∧ (1 ≤ h ∧ h ≤ 256) ∧ (1 ≤ (l.length : Int) ∧ (l.length : Int) ≤ 4) ∧ w * h ≤ 16384 := by
  unfold frameB at hb
  simp only [Bool.and_eq_true, decide_eq_true_eq] at hb
  exact ⟨hb.2.1, hb.2.2.1, hb.2.2.2.2.2.1, hb.2.2.2.1⟩
def mostG : Int → Int → List S66 → Int × Int
  | h, v, [] => (h, v)
  | h, v, x :: xs => mostG (mx h x.f1) (mx v x.f2) xs
theorem mostG_in : ∀ (l : List S66) (h v : Int), (∀ x ∈ l, compOk x = true) → (1 ≤ h ∧ h ≤ 4) → (1 ≤ v ∧ v ≤ 4) → (1 ≤ (mostG h v l).1 ∧ (mostG h v l).1 ≤ 4) ∧ (1 ≤ (mostG h v l).2 ∧ (mostG h v l).2 ≤ 4)
  | [], h, v, _, hh, hv => ⟨hh, hv⟩
  | x :: xs, h, v, hx, hh, hv => by
    obtain ⟨_, g1, g2, _⟩ := compOk_iff.1 (hx x (by simp))
    refine mostG_in xs _ _ (fun y hy => hx y (by simp [hy])) ?_ ?_
    · unfold mx; split <;> omega
    · unfold mx; split <;> omega
theorem specMost_loop (p w hh r : Int) (l : List S66) (hl : l.length ≤ 1000) : ∀ (d k i : Nat) (h v : Int), i + d = l.length → d < k → spec_l04Most.l0 k h v (i : Int) p w hh r l = some (mostG h v (l.drop i)) := by
  intro d
  induction d with
  | zero =>
    intro k i h v hi hk
    obtain ⟨k, rfl⟩ : ∃ m, k = m + 1 := ⟨k - 1, by omega⟩
    rw [spec_l04Most.l0, if_neg (by omega), List.drop_eq_nil_of_le (by omega)]; rfl
  | succ d ih =>
    intro k i h v hi hk
    obtain ⟨k, rfl⟩ : ∃ m, k = m + 1 := ⟨k - 1, by omega⟩
    rw [spec_l04Most.l0, if_pos (by omega), if_pos (by omega), rdC_nat l i (by omega), wsucc (by omega), drop_at l i (by omega), mostG, ih k (i + 1) _ _ (by omega) (by omega), ih k (i + 1) _ _ (by omega) (by omega), ih k (i + 1) _ _ (by omega) (by omega), ih k (i + 1) _ _ (by omega) (by omega)]
    unfold mx
    by_cases c1 : l[i].f1 > h
    · by_cases c2 : l[i].f2 > v
      · rw [if_pos c1, if_pos c2, if_pos (by omega), if_pos (by omega)]
      · rw [if_pos c1, if_neg c2, if_pos (by omega), if_neg (by omega)]
    · by_cases c2 : l[i].f2 > v
      · rw [if_neg c1, if_pos c2, if_neg (by omega), if_pos (by omega)]
      · rw [if_neg c1, if_neg c2, if_neg (by omega), if_neg (by omega)]
theorem specMost_eq (p w hh r : Int) (l : List S66) (hl : l.length ≤ 1000) (k : Nat) (hk : l.length < k) : spec_l04Most.f k p w hh r l = some (mostG 1 1 l) := by
  unfold spec_l04Most.f
  exact specMost_loop p w hh r l hl l.length k 0 1 1 (by omega) hk
theorem implMost_loop (l : List S66) (hl : l.length ≤ 1000) : ∀ (d k i : Nat) (h v : Int), i + d = l.length → d < k → impl_Frame_most.l0 k h v l (l.length : Int) (i : Int) = some (mostG h v (l.drop i)) := by
  intro d
  induction d with
  | zero =>
    intro k i h v hi hk
    obtain ⟨k, rfl⟩ : ∃ m, k = m + 1 := ⟨k - 1, by omega⟩
    rw [impl_Frame_most.l0, if_neg (by omega), List.drop_eq_nil_of_le (by omega)]; rfl
  | succ d ih =>
    intro k i h v hi hk
    obtain ⟨k, rfl⟩ : ∃ m, k = m + 1 := ⟨k - 1, by omega⟩
    rw [impl_Frame_most.l0, if_pos (by omega), if_pos (by omega), if_pos (by omega), rdC_nat l i (by omega), wsucc (by omega), drop_at l i (by omega), mostG, ih k (i + 1) _ _ (by omega) (by omega)]
theorem implMost_eq (p w hh r : Int) (l : List S66) (hl : l.length ≤ 1000) (k : Nat) (hk : l.length < k) : impl_Frame_most.f k p w hh r l = some (mostG 1 1 l) := by
  unfold impl_Frame_most.f
  exact implMost_loop l hl l.length k 0 1 1 (by omega) hk
def upV (a b : Int) : Int := (a + b - 1) / b
theorem specUp_eq (a b : Int) (ha : 0 ≤ a ∧ a ≤ 1000000) (hb : 1 ≤ b ∧ b ≤ 1000000) : spec_l04Up.f a b = some (upV a b) := by
  unfold spec_l04Up.f upV
  rw [if_neg (by omega), w64 (x := a + b) (by omega) (by omega), w64 (x := a + b - 1) (by omega) (by omega), tdw (by omega) (by omega) (by omega)]
theorem implUp_eq (a b : Int) (ha : 0 ≤ a ∧ a ≤ 1000000) (hb : 1 ≤ b ∧ b ≤ 1000000) : impl_up.f a b = some (upV a b) := by
  unfold impl_up.f upV
  rw [if_neg (by omega), w64 (x := a + b) (by omega) (by omega), w64 (x := a + b - 1) (by omega) (by omega), tdw (by omega) (by omega) (by omega)]
theorem upV_in (a b : Int) (ha : 1 ≤ a ∧ a ≤ 1000000) (hb : 1 ≤ b ∧ b ≤ 1000000) : 1 ≤ upV a b ∧ upV a b ≤ a := by
  unfold upV
  constructor
  · exact (Int.le_ediv_iff_mul_le (by omega)).2 (by omega)
  · have : a + b - 1 < (a + 1) * b := by
      have := Int.mul_le_mul_of_nonneg_left hb.1 (show (0 : Int) ≤ a by omega)
      rw [Int.add_mul]; omega
    have := Int.ediv_lt_of_lt_mul (by omega) this
    omega
theorem rdC_ok {l : List S66} (hx : ∀ x ∈ l, compOk x = true) (c : Int) (h0 : 0 ≤ c) (h1 : c < (l.length : Int)) : compOk (rd_T66 l c) = true := by
  obtain ⟨n, rfl⟩ := Int.eq_ofNat_of_zero_le h0
  rw [rdC_nat l n (by omega)]
  exact hx _ (List.getElem_mem _)
def unitsV (w h : Int) (l : List S66) : Int × Int := (upV w (8 * (mostG 1 1 l).1), upV h (8 * (mostG 1 1 l).2))
def sizeV (w h : Int) (l : List S66) (c : Int) : Int × Int := (upV (w * (rd_T66 l c).f1) (mostG 1 1 l).1, upV (h * (rd_T66 l c).f2) (mostG 1 1 l).2)
def blocksV (w h : Int) (l : List S66) (c : Int) : Int × Int := ((unitsV w h l).1 * (rd_T66 l c).f1, (unitsV w h l).2 * (rd_T66 l c).f2)
theorem mul1024 {a b : Int} (ha : 1 ≤ a ∧ a ≤ 256) (hb : 1 ≤ b ∧ b ≤ 4) : 1 ≤ a * b ∧ a * b ≤ 1024 := by
  have h1 : (1 : Int) * 1 ≤ a * b := Int.mul_le_mul ha.1 hb.1 (by omega) (by omega)
  have h2 : a * b ≤ 256 * 4 := Int.mul_le_mul ha.2 hb.2 (by omega) (by omega)
  omega
theorem unitsV_in {p w h r : Int} {l : List S66} (hb : frameB p w h r l = true) : (1 ≤ (unitsV w h l).1 ∧ (unitsV w h l).1 ≤ 256) ∧ (1 ≤ (unitsV w h l).2 ∧ (unitsV w h l).2 ≤ 256) := by
  obtain ⟨c1, c2, c3, _⟩ := frameB_parts hb
  obtain ⟨m1, m2⟩ := mostG_in l 1 1 (frameB_ok hb) (by omega) (by omega)
  have u1 := upV_in w (8 * (mostG 1 1 l).1) (by omega) (by omega)
  have u2 := upV_in h (8 * (mostG 1 1 l).2) (by omega) (by omega)
  unfold unitsV
  simp only
  omega
theorem sizeV_in {p w h r : Int} {l : List S66} (hb : frameB p w h r l = true) (c : Int) (h0 : 0 ≤ c) (h1 : c < (l.length : Int)) : (1 ≤ (sizeV w h l c).1 ∧ (sizeV w h l c).1 ≤ 1024) ∧ (1 ≤ (sizeV w h l c).2 ∧ (sizeV w h l c).2 ≤ 1024) := by
  obtain ⟨c1, c2, c3, _⟩ := frameB_parts hb
  obtain ⟨m1, m2⟩ := mostG_in l 1 1 (frameB_ok hb) (by omega) (by omega)
  obtain ⟨_, g1, g2, _⟩ := compOk_iff.1 (rdC_ok (frameB_ok hb) c h0 h1)
  have k1 := mul1024 c1 g1
  have k2 := mul1024 c2 g2
  have u1 := upV_in (w * (rd_T66 l c).f1) (mostG 1 1 l).1 (by omega) (by omega)
  have u2 := upV_in (h * (rd_T66 l c).f2) (mostG 1 1 l).2 (by omega) (by omega)
  unfold sizeV
  simp only
  omega
theorem specUnits_eq {p w h r : Int} {l : List S66} (hb : frameB p w h r l = true) (k : Nat) (hk : 100 ≤ k) : spec_l04Units.f k p w h r l = some (unitsV w h l) := by
  obtain ⟨c1, c2, c3, _⟩ := frameB_parts hb
  obtain ⟨m1, m2⟩ := mostG_in l 1 1 (frameB_ok hb) (by omega) (by omega)
  unfold spec_l04Units.f
  rw [specMost_eq p w h r l (by omega) k (by omega), Option.bind_some, w64 (x := 8 * (mostG 1 1 l).1) (by omega) (by omega), w64 (x := 8 * (mostG 1 1 l).2) (by omega) (by omega), specUp_eq w _ (by omega) (by omega), Option.bind_some, specUp_eq h _ (by omega) (by omega)]; rfl
theorem implUnits_eq {p w h r : Int} {l : List S66} (hb : frameB p w h r l = true) (k : Nat) (hk : 100 ≤ k) : impl_Frame_units.f k p w h r l = some (unitsV w h l) := by
  obtain ⟨c1, c2, c3, _⟩ := frameB_parts hb
  obtain ⟨m1, m2⟩ := mostG_in l 1 1 (frameB_ok hb) (by omega) (by omega)
  unfold impl_Frame_units.f
  rw [implMost_eq p w h r l (by omega) k (by omega), Option.bind_some, w64 (x := 8 * (mostG 1 1 l).1) (by omega) (by omega), w64 (x := 8 * (mostG 1 1 l).2) (by omega) (by omega), implUp_eq w _ (by omega) (by omega), Option.bind_some, implUp_eq h _ (by omega) (by omega)]; rfl
theorem specSize_eq {p w h r : Int} {l : List S66} (hb : frameB p w h r l = true) (c : Int) (h0 : 0 ≤ c) (h1 : c < (l.length : Int)) (k : Nat) (hk : 100 ≤ k) : spec_l04Size.f k p w h r l c = some (sizeV w h l c) := by
  obtain ⟨c1, c2, c3, _⟩ := frameB_parts hb
  obtain ⟨m1, m2⟩ := mostG_in l 1 1 (frameB_ok hb) (by omega) (by omega)
  obtain ⟨_, g1, g2, _⟩ := compOk_iff.1 (rdC_ok (frameB_ok hb) c h0 h1)
  have k1 := mul1024 c1 g1
  have k2 := mul1024 c2 g2
  unfold spec_l04Size.f
  rw [specMost_eq p w h r l (by omega) k (by omega), Option.bind_some, if_pos h0, if_pos h1, w64 (x := w * (rd_T66 l c).f1) (by omega) (by omega), w64 (x := h * (rd_T66 l c).f2) (by omega) (by omega), specUp_eq _ _ (by omega) (by omega), Option.bind_some, specUp_eq _ _ (by omega) (by omega)]; rfl
theorem implSize_eq {p w h r : Int} {l : List S66} (hb : frameB p w h r l = true) (c : Int) (h0 : 0 ≤ c) (h1 : c < (l.length : Int)) (k : Nat) (hk : 100 ≤ k) : impl_Frame_size.f k p w h r l c = some (sizeV w h l c) := by
  obtain ⟨c1, c2, c3, _⟩ := frameB_parts hb
  obtain ⟨m1, m2⟩ := mostG_in l 1 1 (frameB_ok hb) (by omega) (by omega)
  obtain ⟨_, g1, g2, _⟩ := compOk_iff.1 (rdC_ok (frameB_ok hb) c h0 h1)
  have k1 := mul1024 c1 g1
  have k2 := mul1024 c2 g2
  unfold impl_Frame_size.f
  rw [implMost_eq p w h r l (by omega) k (by omega), Option.bind_some, if_pos h0, if_pos h1, w64 (x := w * (rd_T66 l c).f1) (by omega) (by omega), w64 (x := h * (rd_T66 l c).f2) (by omega) (by omega), implUp_eq _ _ (by omega) (by omega), Option.bind_some, implUp_eq _ _ (by omega) (by omega)]; rfl
theorem specBlocks_eq {p w h r : Int} {l : List S66} (hb : frameB p w h r l = true) (c : Int) (h0 : 0 ≤ c) (h1 : c < (l.length : Int)) (k : Nat) (hk : 100 ≤ k) : spec_l04Blocks.f k p w h r l c = some (blocksV w h l c) := by
  obtain ⟨_, g1, g2, _⟩ := compOk_iff.1 (rdC_ok (frameB_ok hb) c h0 h1)
  obtain ⟨u1, u2⟩ := unitsV_in hb
  have k1 := mul1024 u1 g1
  have k2 := mul1024 u2 g2
  unfold spec_l04Blocks.f
  rw [specUnits_eq hb k hk, Option.bind_some, if_pos h0, if_pos h1, w64 (x := (unitsV w h l).1 * (rd_T66 l c).f1) (by omega) (by omega), w64 (x := (unitsV w h l).2 * (rd_T66 l c).f2) (by omega) (by omega)]; rfl
theorem implBlocks_eq {p w h r : Int} {l : List S66} (hb : frameB p w h r l = true) (c : Int) (h0 : 0 ≤ c) (h1 : c < (l.length : Int)) (k : Nat) (hk : 100 ≤ k) : impl_Frame_blocks.f k p w h r l c = some (blocksV w h l c) := by
  obtain ⟨_, g1, g2, _⟩ := compOk_iff.1 (rdC_ok (frameB_ok hb) c h0 h1)
  obtain ⟨u1, u2⟩ := unitsV_in hb
  have k1 := mul1024 u1 g1
  have k2 := mul1024 u2 g2
  unfold impl_Frame_blocks.f
  rw [implUnits_eq hb k hk, Option.bind_some, if_pos h0, if_pos h1, w64 (x := (unitsV w h l).1 * (rd_T66 l c).f1) (by omega) (by omega), w64 (x := (unitsV w h l).2 * (rd_T66 l c).f2) (by omega) (by omega)]; rfl
def compIn (p w h r : Int) (l : List S66) (c : Int) : Bool := frameB p w h r l && decide (0 ≤ c ∧ c ≤ (l.length : Int) - 1)
theorem specComp_eq (p w h r : Int) (l : List S66) (hl : l.length ≤ 1048576) (c : Int) (k : Nat) (hk : 100 ≤ k) : spec_l04Comp.f k p w h r l c = some (compIn p w h r l c) := by
  unfold spec_l04Comp.f compIn
  rw [specFrame_eq p w h r l k hk, Option.bind_some, w64 (by omega) (by omega), between_eq]
  by_cases hb : frameB p w h r l = true
  · rw [if_pos hb, hb, Bool.true_and]; rfl
  · have hb' : frameB p w h r l = false := by simpa using hb
    rw [if_neg hb, hb', Bool.false_and]
theorem implHas_eq (p w h r : Int) (l : List S66) (hl : l.length ≤ 1048576) (c : Int) (k : Nat) (hk : 100 ≤ k) : impl_Frame_has.f k p w h r l c = some (compIn p w h r l c) := by
  unfold impl_Frame_has.f compIn
  rw [implFrame_eq p w h r l k hk, Option.bind_some, w64 (by omega) (by omega), within_eq]
  by_cases hb : frameB p w h r l = true
  · rw [if_pos hb, hb, Bool.true_and]; rfl
  · have hb' : frameB p w h r l = false := by simpa using hb
    rw [if_neg hb, hb', Bool.false_and]
theorem compIn_iff {p w h r : Int} {l : List S66} {c : Int} : compIn p w h r l c = true ↔ frameB p w h r l = true ∧ 0 ≤ c ∧ c < (l.length : Int) := by
  unfold compIn
  rw [Bool.and_eq_true, decide_eq_true_eq]
  constructor
  · rintro ⟨a, b, c⟩; exact ⟨a, b, by omega⟩
  · rintro ⟨a, b, c⟩; exact ⟨a, b, by omega⟩
theorem implSizeOf_eq (p w h r : Int) (l : List S66) (hl : l.length ≤ 1048576) (c : Int) (k : Nat) (hk : 100 ≤ k) : impl_SizeOf.f k p w h r l c = some (if compIn p w h r l c then sizeV w h l c else (0, 0)) := by
  unfold impl_SizeOf.f
  rw [implHas_eq p w h r l hl c k hk, Option.bind_some]
  by_cases hc : compIn p w h r l c = true
  · obtain ⟨hb, h0, h1⟩ := compIn_iff.1 hc
    rw [if_pos hc, if_pos hc, implSize_eq hb c h0 h1 k hk]; rfl
  · rw [if_neg hc, if_neg hc]
theorem specBlocksOf_eq (p w h r : Int) (l : List S66) (hl : l.length ≤ 1048576) (c : Int) (k : Nat) (hk : 100 ≤ k) : spec_BlocksOf.f k p w h r l c = some (if compIn p w h r l c then blocksV w h l c else (0, 0)) := by
  unfold spec_BlocksOf.f
  rw [specComp_eq p w h r l hl c k hk, Option.bind_some]
  by_cases hc : compIn p w h r l c = true
  · obtain ⟨hb, h0, h1⟩ := compIn_iff.1 hc
    rw [if_pos hc, if_pos hc, specBlocks_eq hb c h0 h1 k hk]; rfl
  · rw [if_neg hc, if_neg hc]
theorem implBlocksOf_eq (p w h r : Int) (l : List S66) (hl : l.length ≤ 1048576) (c : Int) (k : Nat) (hk : 100 ≤ k) : impl_BlocksOf.f k p w h r l c = some (if compIn p w h r l c then blocksV w h l c else (0, 0)) := by
  unfold impl_BlocksOf.f
  rw [implHas_eq p w h r l hl c k hk, Option.bind_some]
  by_cases hc : compIn p w h r l c = true
  · obtain ⟨hb, h0, h1⟩ := compIn_iff.1 hc
    rw [if_pos hc, if_pos hc, implBlocks_eq hb c h0 h1 k hk]; rfl
  · rw [if_neg hc, if_neg hc]

def To {α : Type} (f g : Nat → α) : Prop := ∃ K : Nat, ∀ k : Nat, f (k + K) = g k
theorem To.refl {α : Type} (f : Nat → α) : To f f := ⟨0, fun _ => rfl⟩
theorem To.trans {α : Type} {f g h : Nat → α} (a : To f g) (b : To g h) : To f h := by
  obtain ⟨K, a⟩ := a
  obtain ⟨L, b⟩ := b
  exact ⟨L + K, fun k => by rw [← Nat.add_assoc, a, b]⟩
theorem To.step {α : Type} {f g : Nat → α} (a : ∀ k : Nat, f (k + 1) = g k) : To f g := ⟨1, a⟩
theorem To.eq {α : Type} {f g : Nat → α} (a : ∀ k : Nat, f k = g k) : To f g := ⟨0, a⟩
theorem To.ends {α : Type} {f : Nat → α} {r : α} (a : To f fun _ => r) : ∃ K : Nat, ∀ k : Nat, K ≤ k → f k = r := by
  obtain ⟨K, a⟩ := a
  exact ⟨K, fun k hk => by obtain ⟨j, rfl⟩ : ∃ j, k = j + K := ⟨k - K, by omega⟩; exact a j⟩

def rowP (c : Int) (x : S66) (r k : Nat) (y : Nat) (z d : Nat) : List S60 := (List.range' z d).map fun z : Nat => ⟨c, (r : Int) * x.f2 + (y : Int), (k : Int) * x.f1 + (z : Int)⟩
def compP (c : Int) (x : S66) (r k : Nat) (y d : Nat) : List S60 := (List.range' y d).flatMap fun y => rowP c x r k y 0 x.f1.toNat
def unitP (l : List S66) (r k : Nat) (cs : List Int) : List S60 := cs.flatMap fun c => compP c (rd_T66 l c) r k 0 (rd_T66 l c).f2.toNat
theorem rowP_len (c : Int) (x : S66) (r k y z d : Nat) : (rowP c x r k y z d).length = d := by simp [rowP]
theorem compP_len (c : Int) (x : S66) (r k y d : Nat) : (compP c x r k y d).length = d * x.f1.toNat := by
  induction d generalizing y with
  | zero => simp [compP]
  | succ d ih =>
    have : compP c x r k y (d + 1) = rowP c x r k y 0 x.f1.toNat ++ compP c x r k (y + 1) d := by simp [compP, List.range'_succ]
    rw [this, List.length_append, rowP_len, ih, Nat.succ_mul, Nat.add_comm]
theorem unitP_len (l : List S66) (hx : ∀ x ∈ l, compOk x = true) (r k : Nat) : ∀ cs : List Int, (∀ c ∈ cs, 0 ≤ c ∧ c < (l.length : Int)) → (unitP l r k cs).length ≤ 16 * cs.length
  | [], _ => by simp [unitP]
  | c :: cs, h => by
    have ih := unitP_len l hx r k cs (fun c hc => h c (by simp [hc]))
    obtain ⟨h0, h1⟩ := h c (by simp)
    obtain ⟨_, g1, g2, _⟩ := compOk_iff.1 (rdC_ok hx c h0 h1)
    have e : unitP l r k (c :: cs) = compP c (rd_T66 l c) r k 0 (rd_T66 l c).f2.toNat ++ unitP l r k cs := by simp [unitP]
    have hm : (rd_T66 l c).f2.toNat * (rd_T66 l c).f1.toNat ≤ 4 * 4 := Nat.mul_le_mul (by omega) (by omega)
    rw [e, List.length_append, compP_len, List.length_cons]
    omega
section
variable (p w h r0 : Int) (l : List S66) (hx : ∀ x ∈ l, compOk x = true) (cs : List Int) (hcs : ∀ c ∈ cs, 0 ≤ c ∧ c < (l.length : Int)) (hcl : cs.length ≤ 1000)
theorem mulw {a b : Int} (ha : 0 ≤ a ∧ a ≤ 100000) (hb : 1 ≤ b ∧ b ≤ 4) : 0 ≤ a * b ∧ a * b ≤ 400000 := by
  have h1 : 0 ≤ a * b := Int.mul_nonneg ha.1 (by omega)
  have h2 : a * b ≤ 100000 * 4 := Int.mul_le_mul ha.2 hb.2 (by omega) (by omega)
  omega
include hx hcs in
theorem spec_l6 (x5 : List (List S60)) (W H : Int) (r k i y : Nat) (hr : r ≤ 100000) (hk : k ≤ 100000) (hi : i < cs.length) (hy : y ≤ 100) : ∀ (d z : Nat) (u : List S60), z + d = (rd_T66 l (cs[i])).f1.toNat → u.length + d ≤ 1000000 →
    To (fun n => spec_l04Order.l6 n cs x5 W H (r : Int) (k : Int) u (i : Int) (y : Int) (z : Int) p w h r0 l (rd_T66 l (cs[i])).f0 (rd_T66 l (cs[i])).f1 (rd_T66 l (cs[i])).f2 (rd_T66 l (cs[i])).f3)
       (fun n => spec_l04Order.l5 n cs x5 W H (r : Int) (k : Int) (u ++ rowP (cs[i]) (rd_T66 l (cs[i])) r k y z d) (i : Int) ((y + 1 : Nat) : Int) p w h r0 l (rd_T66 l (cs[i])).f0 (rd_T66 l (cs[i])).f1 (rd_T66 l (cs[i])).f2 (rd_T66 l (cs[i])).f3) := by
  obtain ⟨h0, h1⟩ := hcs (cs[i]) (List.getElem_mem hi)
  obtain ⟨_, g1, g2, _⟩ := compOk_iff.1 (rdC_ok hx _ h0 h1)
  have m1 := mulw (a := (r : Int)) (by omega) g2
  have m2 := mulw (a := (k : Int)) (by omega) g1
  intro d
  induction d with
  | zero =>
    intro z u hz hu
    refine To.step fun n => ?_
    show spec_l04Order.l6 (n + 1) cs x5 W H r k u i y z p w h r0 l _ _ _ _ = _
    rw [spec_l04Order.l6, if_neg (by omega), wsucc (by omega)]
    simp [rowP]
  | succ d ih =>
    intro z u hz hu
    refine To.trans (To.step fun n => ?_) (?_ : To (fun n => spec_l04Order.l6 n cs x5 W H (r : Int) (k : Int) (u ++ [⟨cs[i], (r : Int) * (rd_T66 l (cs[i])).f2 + (y : Int), (k : Int) * (rd_T66 l (cs[i])).f1 + (z : Int)⟩]) (i : Int) (y : Int) ((z + 1 : Nat) : Int) p w h r0 l (rd_T66 l (cs[i])).f0 (rd_T66 l (cs[i])).f1 (rd_T66 l (cs[i])).f2 (rd_T66 l (cs[i])).f3) _)
    · show spec_l04Order.l6 (n + 1) cs x5 W H r k u i y z p w h r0 l _ _ _ _ = _
      rw [spec_l04Order.l6, if_pos (by omega), if_pos (by omega), if_pos (by omega), if_pos (by omega), rd_nat cs i hi, wsucc (by omega), w64 (x := (r : Int) * (rd_T66 l (cs[i])).f2) (by omega) (by omega), w64 (x := (k : Int) * (rd_T66 l (cs[i])).f1) (by omega) (by omega), w64 (by omega) (by omega), w64 (by omega) (by omega)]
    · have := ih (z + 1) (u ++ [⟨cs[i], (r : Int) * (rd_T66 l (cs[i])).f2 + (y : Int), (k : Int) * (rd_T66 l (cs[i])).f1 + (z : Int)⟩]) (by omega) (by simp; omega)
      refine To.trans this (To.eq fun n => ?_)
      simp [rowP, List.range'_succ]
include hx hcs hcl in
theorem spec_l5 (x5 : List (List S60)) (W H : Int) (r k i : Nat) (hr : r ≤ 100000) (hk : k ≤ 100000) (hi : i < cs.length) : ∀ (d y : Nat) (u : List S60), y + d = (rd_T66 l (cs[i])).f2.toNat → u.length + 4 * d ≤ 1000000 →
    To (fun n => spec_l04Order.l5 n cs x5 W H (r : Int) (k : Int) u (i : Int) (y : Int) p w h r0 l (rd_T66 l (cs[i])).f0 (rd_T66 l (cs[i])).f1 (rd_T66 l (cs[i])).f2 (rd_T66 l (cs[i])).f3)
       (fun n => spec_l04Order.l4 n cs x5 W H (r : Int) (k : Int) (u ++ compP (cs[i]) (rd_T66 l (cs[i])) r k y d) ((i + 1 : Nat) : Int) p w h r0 l) := by
  obtain ⟨h0, h1⟩ := hcs (cs[i]) (List.getElem_mem hi)
  obtain ⟨_, g1, g2, _⟩ := compOk_iff.1 (rdC_ok hx _ h0 h1)
  intro d
  induction d with
  | zero =>
    intro y u hy hu
    refine To.step fun n => ?_
    show spec_l04Order.l5 (n + 1) cs x5 W H r k u i y p w h r0 l _ _ _ _ = _
    rw [spec_l04Order.l5, if_neg (by omega), wsucc (by omega)]
    simp [compP]
  | succ d ih =>
    intro y u hy hu
    refine To.trans (To.step fun n => ?_) (To.trans (spec_l6 p w h r0 l hx cs hcs x5 W H r k i y hr hk hi (by omega) (rd_T66 l (cs[i])).f1.toNat 0 u (by omega) (by omega)) ?_)
    · show spec_l04Order.l5 (n + 1) cs x5 W H r k u i y p w h r0 l _ _ _ _ = _
      rw [spec_l04Order.l5, if_pos (by omega)]
      rfl
    · have := ih (y + 1) (u ++ rowP (cs[i]) (rd_T66 l (cs[i])) r k y 0 (rd_T66 l (cs[i])).f1.toNat) (by omega) (by rw [List.length_append, rowP_len]; omega)
      refine To.trans this (To.eq fun n => ?_)
      simp [compP, List.range'_succ]
include hx hcs hcl in
theorem spec_l4 (x5 : List (List S60)) (hx5 : x5.length ≤ 1000000) (W H : Int) (r k : Nat) (hr : r ≤ 100000) (hk : k ≤ 100000) : ∀ (d i : Nat) (u : List S60), i + d = cs.length → u.length + 16 * d ≤ 1000000 →
    To (fun n => spec_l04Order.l4 n cs x5 W H (r : Int) (k : Int) u (i : Int) p w h r0 l)
       (fun n => spec_l04Order.l3 n cs (x5 ++ [u ++ unitP l r k (cs.drop i)]) W H (r : Int) ((k + 1 : Nat) : Int) p w h r0 l) := by
  intro d
  induction d with
  | zero =>
    intro i u hi hu
    refine To.step fun n => ?_
    show spec_l04Order.l4 (n + 1) cs x5 W H r k u i p w h r0 l = _
    rw [spec_l04Order.l4, if_neg (by omega), if_pos (by omega), wsucc (by omega), List.drop_eq_nil_of_le (by omega)]
    simp [unitP]
  | succ d ih =>
    intro i u hi hu
    have hil : i < cs.length := by omega
    obtain ⟨h0, h1⟩ := hcs (cs[i]) (List.getElem_mem hil)
    obtain ⟨_, g1, g2, _⟩ := compOk_iff.1 (rdC_ok hx _ h0 h1)
    have hm : (rd_T66 l (cs[i])).f2.toNat * (rd_T66 l (cs[i])).f1.toNat ≤ 4 * 4 := Nat.mul_le_mul (by omega) (by omega)
    refine To.trans (To.step fun n => ?_) (To.trans (spec_l5 p w h r0 l hx cs hcs hcl x5 W H r k i hr hk hil (rd_T66 l (cs[i])).f2.toNat 0 u (by omega) (by omega)) ?_)
    · show spec_l04Order.l4 (n + 1) cs x5 W H r k u i p w h r0 l = _
      rw [spec_l04Order.l4, if_pos (by omega), if_pos (by omega), rd_nat cs i hil, if_pos h0, if_pos h1]
      rfl
    · have := ih (i + 1) (u ++ compP (cs[i]) (rd_T66 l (cs[i])) r k 0 (rd_T66 l (cs[i])).f2.toNat) (by omega) (by rw [List.length_append, compP_len]; omega)
      refine To.trans this (To.eq fun n => ?_)
      rw [drop_at cs i hil]
      simp only [unitP, List.flatMap_cons, List.append_assoc]
include hx hcs hcl in
theorem spec_l3 (W : Nat) (hW : W ≤ 100000) (H : Int) (r : Nat) (hr : r ≤ 100000) (hcl2 : 16 * cs.length ≤ 1000000) : ∀ (d k : Nat) (x5 : List (List S60)), k + d = W → x5.length + d ≤ 1000000 →
    To (fun n => spec_l04Order.l3 n cs x5 (W : Int) H (r : Int) (k : Int) p w h r0 l)
       (fun n => spec_l04Order.l2 n cs (x5 ++ (List.range' k d).map fun k => unitP l r k cs) (W : Int) H ((r + 1 : Nat) : Int) p w h r0 l) := by
  intro d
  induction d with
  | zero =>
    intro k x5 hk hx5
    refine To.step fun n => ?_
    show spec_l04Order.l3 (n + 1) cs x5 W H r k p w h r0 l = _
    rw [spec_l04Order.l3, if_neg (by omega), wsucc (by omega)]
    simp
  | succ d ih =>
    intro k x5 hk hx5
    refine To.trans (To.step fun n => ?_) (To.trans (spec_l4 p w h r0 l hx cs hcs hcl x5 (by omega) (W : Int) H r k hr (by omega) cs.length 0 [] (by omega) (by simp; omega)) ?_)
    · show spec_l04Order.l3 (n + 1) cs x5 W H r k p w h r0 l = _
      rw [spec_l04Order.l3, if_pos (by omega)]
      rfl
    · have := ih (k + 1) (x5 ++ [[] ++ unitP l r k (cs.drop 0)]) (by omega) (by simp; omega)
      refine To.trans this (To.eq fun n => ?_)
      simp [List.range'_succ]
include hx hcs hcl in
theorem spec_l2 (W H : Nat) (hW : W ≤ 256) (hH : H ≤ 1000) (hcl2 : 16 * cs.length ≤ 1000000) : ∀ (d r : Nat) (x5 : List (List S60)), r + d = H → x5.length + W * d ≤ 1000000 →
    To (fun n => spec_l04Order.l2 n cs x5 (W : Int) (H : Int) (r : Int) p w h r0 l)
       (fun _ => some (x5 ++ (List.range' r d).flatMap fun r => (List.range' 0 W).map fun k => unitP l r k cs)) := by
  intro d
  induction d with
  | zero =>
    intro r x5 hr hx5
    refine To.step fun n => ?_
    show spec_l04Order.l2 (n + 1) cs x5 W H r p w h r0 l = _
    rw [spec_l04Order.l2, if_neg (by omega)]
    simp
  | succ d ih =>
    intro r x5 hr hx5
    rw [Nat.mul_succ] at hx5
    refine To.trans (To.step fun n => ?_) (To.trans (spec_l3 p w h r0 l hx cs hcs hcl W (by omega) (H : Int) r (by omega) hcl2 W 0 x5 (by omega) (by omega)) ?_)
    · show spec_l04Order.l2 (n + 1) cs x5 W H r p w h r0 l = _
      rw [spec_l04Order.l2, if_pos (by omega)]
      rfl
    · have := ih (r + 1) (x5 ++ (List.range' 0 W).map fun k => unitP l r k cs) (by omega) (by simp; omega)
      refine To.trans this (To.eq fun n => ?_)
      simp [List.range'_succ]
end
theorem spec_l1 (cs : List Int) (hcs : 0 < cs.length) (sw sh : Int) (hsw : 1 ≤ sw ∧ sw ≤ 100000) (r : Nat) (hr : r ≤ 100000) : ∀ (d k : Nat) (x5 : List (List S60)), (k : Int) + d = upV sw 8 → x5.length + d ≤ 2000000 →
    To (fun n => spec_l04Order.l1 n cs x5 sw sh (r : Int) (k : Int)) (fun n => spec_l04Order.l0 n cs (x5 ++ (List.range' k d).map fun k : Nat => [⟨rd cs 0, (r : Int), (k : Int)⟩]) sw sh ((r + 1 : Nat) : Int)) := by
  intro d
  have hu := upV_in sw 8 (by omega) (by omega)
  induction d with
  | zero =>
    intro k x5 hk hx5
    refine To.step fun n => ?_
    show spec_l04Order.l1 (n + 1) cs x5 sw sh r k = _
    rw [spec_l04Order.l1, specUp_eq sw 8 (by omega) (by omega), Option.bind_some, if_neg (by omega), wsucc (by omega)]
    simp
  | succ d ih =>
    intro k x5 hk hx5
    refine To.trans (To.step fun n => ?_) (To.trans (ih (k + 1) (x5 ++ [[⟨rd cs 0, (r : Int), (k : Int)⟩]]) (by omega) (by simp; omega)) (To.eq fun n => ?_))
    · show spec_l04Order.l1 (n + 1) cs x5 sw sh r k = _
      rw [spec_l04Order.l1, specUp_eq sw 8 (by omega) (by omega), Option.bind_some, if_pos (by omega), if_pos (by omega), if_pos (by omega), wsucc (by omega)]
    · simp [List.range'_succ]
theorem spec_l0 (cs : List Int) (hcs : 0 < cs.length) (sw sh : Int) (hsw : 1 ≤ sw ∧ sw ≤ 1024) (hsh : 1 ≤ sh ∧ sh ≤ 1024) : ∀ (d r : Nat) (x5 : List (List S60)), (r : Int) + d = upV sh 8 → x5.length + 1024 * d ≤ 2000000 →
    To (fun n => spec_l04Order.l0 n cs x5 sw sh (r : Int)) (fun _ => some (x5 ++ (List.range' r d).flatMap fun r => (List.range' 0 (upV sw 8).toNat).map fun k => [⟨rd cs 0, ((r : Nat) : Int), ((k : Nat) : Int)⟩])) := by
  intro d
  have hu := upV_in sw 8 (by omega) (by omega)
  have hu2 := upV_in sh 8 (by omega) (by omega)
  induction d with
  | zero =>
    intro r x5 hr hx5
    refine To.step fun n => ?_
    show spec_l04Order.l0 (n + 1) cs x5 sw sh r = _
    rw [spec_l04Order.l0, specUp_eq sh 8 (by omega) (by omega), Option.bind_some, if_neg (by omega)]
    simp
  | succ d ih =>
    intro r x5 hr hx5
    refine To.trans (To.step fun n => ?_) (To.trans (spec_l1 cs hcs sw sh (by omega) r (by omega) (upV sw 8).toNat 0 x5 (by omega) (by omega)) (To.trans (ih (r + 1) _ (by omega) (by simp; omega)) (To.eq fun n => ?_)))
    · show spec_l04Order.l0 (n + 1) cs x5 sw sh r = _
      rw [spec_l04Order.l0, specUp_eq sh 8 (by omega) (by omega), Option.bind_some, if_pos (by omega)]
      rfl
    · simp [List.range'_succ]
def orderL (w h : Int) (l : List S66) (cs : List Int) : List (List S60) :=
  if cs.length = 1 then (List.range' 0 (upV (sizeV w h l (rd cs 0)).2 8).toNat).flatMap fun r => (List.range' 0 (upV (sizeV w h l (rd cs 0)).1 8).toNat).map fun k => [⟨rd cs 0, ((r : Nat) : Int), ((k : Nat) : Int)⟩]
  else (List.range' 0 (unitsV w h l).2.toNat).flatMap fun r => (List.range' 0 (unitsV w h l).1.toNat).map fun k => unitP l r k cs
theorem bind_to {α β : Type} {f : Nat → Option α} {g : Nat → α → Option β} {v : α} {r : Option β} (N : Nat) (hf : ∀ k : Nat, N ≤ k → f k = some v) (hg : ∃ K : Nat, ∀ k : Nat, K ≤ k → g k v = r) : ∃ K : Nat, ∀ k : Nat, K ≤ k → ((f k).bind (g k)) = r := by
  obtain ⟨K, hg⟩ := hg
  exact ⟨max N K, fun k hk => by rw [hf k (by omega), Option.bind_some, hg k (by omega)]⟩
theorem specOrder_ends {p w h r : Int} {l : List S66} (hb : frameB p w h r l = true) (cs : List Int) (hcs : ∀ c ∈ cs, 0 ≤ c ∧ c < (l.length : Int)) (hc0 : 0 < cs.length) (hcl : cs.length ≤ 4) : ∃ K : Nat, ∀ k : Nat, K ≤ k → spec_l04Order.f k p w h r l cs = some (orderL w h l cs) := by
  unfold spec_l04Order.f orderL
  simp only [Option.bind_some]
  by_cases h1 : cs.length = 1
  · simp only [h1, if_true, show ((1 : Nat) : Int) = 1 from rfl, show (0 : Int) < 1 from by decide]
    have hr0 : 0 ≤ rd cs 0 ∧ rd cs 0 < (l.length : Int) := by
      have : rd cs ((0 : Nat) : Int) = cs[0] := rd_nat cs 0 hc0
      have e : rd cs 0 = cs[0] := this
      rw [e]; exact hcs _ (List.getElem_mem hc0)
    obtain ⟨s1, s2⟩ := sizeV_in hb (rd cs 0) hr0.1 hr0.2
    have u2 := upV_in (sizeV w h l (rd cs 0)).2 8 (by omega) (by omega)
    refine bind_to 100 (fun k hk => specSize_eq hb (rd cs 0) hr0.1 hr0.2 k hk) ?_
    have := spec_l0 cs hc0 (sizeV w h l (rd cs 0)).1 (sizeV w h l (rd cs 0)).2 s1 s2 (upV (sizeV w h l (rd cs 0)).2 8).toNat 0 [] (by omega) (by simp; omega)
    simpa using this.ends
  · have h1' : ¬ ((cs.length : Int) = 1) := by omega
    simp only [h1, h1', if_false]
    obtain ⟨u1, u2⟩ := unitsV_in hb
    refine bind_to 100 (fun k hk => specUnits_eq hb k hk) ?_
    have hmul : (unitsV w h l).1.toNat * (unitsV w h l).2.toNat ≤ 256 * 256 := Nat.mul_le_mul (by omega) (by omega)
    have := spec_l2 p w h r l (frameB_ok hb) cs hcs (by omega) (unitsV w h l).1.toNat (unitsV w h l).2.toNat (by omega) (by omega) (by omega) (unitsV w h l).2.toNat 0 [] (by omega) (by simp; omega)
    rw [Int.toNat_of_nonneg (by omega), Int.toNat_of_nonneg (by omega)] at this
    simpa using this.ends

section
variable (p w h r0 : Int) (l : List S66) (hx : ∀ x ∈ l, compOk x = true) (cs : List Int) (hcs : ∀ c ∈ cs, 0 ≤ c ∧ c < (l.length : Int)) (hcl : cs.length ≤ 1000)
include hx hcs in
theorem impl_l6 (x5 : List (List S60)) (W H B R C : Int) (r k i y : Nat) (hr : r ≤ 100000) (hk : k ≤ 100000) (hi : i < cs.length) (hy : y ≤ 100) : ∀ (d z : Nat) (u : List S60), z + d = (rd_T66 l (cs[i])).f1.toNat → u.length + d ≤ 1000000 →
    To (fun n => impl_Frame_unitPlaces.l6 n cs x5 W (r : Int) (k : Int) u (cs[i]) (rd_T66 l (cs[i])).f1 (rd_T66 l (cs[i])).f2 (y : Int) H R B C cs (cs.length : Int) (i : Int) (rd_T66 l (cs[i])).f2 (y : Int) (rd_T66 l (cs[i])).f1 (z : Int) p w h r0 l)
       (fun n => impl_Frame_unitPlaces.l5 n cs x5 W (r : Int) (k : Int) (u ++ rowP (cs[i]) (rd_T66 l (cs[i])) r k y z d) (cs[i]) (rd_T66 l (cs[i])).f1 (rd_T66 l (cs[i])).f2 H R B C cs (cs.length : Int) (i : Int) (rd_T66 l (cs[i])).f2 ((y + 1 : Nat) : Int) p w h r0 l) := by
  obtain ⟨h0, h1⟩ := hcs (cs[i]) (List.getElem_mem hi)
  obtain ⟨_, g1, g2, _⟩ := compOk_iff.1 (rdC_ok hx _ h0 h1)
  have m1 := mulw (a := (r : Int)) (by omega) g2
  have m2 := mulw (a := (k : Int)) (by omega) g1
  intro d
  induction d with
  | zero =>
    intro z u hz hu
    refine To.step fun n => ?_
    show impl_Frame_unitPlaces.l6 (n + 1) cs x5 W r k u _ _ _ y H R B C cs _ i _ y _ z p w h r0 l = _
    rw [impl_Frame_unitPlaces.l6, if_neg (by omega), wsucc (by omega)]
    simp [rowP]
  | succ d ih =>
    intro z u hz hu
    refine To.trans (To.step fun n => ?_) (To.trans (ih (z + 1) (u ++ [⟨cs[i], (r : Int) * (rd_T66 l (cs[i])).f2 + (y : Int), (k : Int) * (rd_T66 l (cs[i])).f1 + (z : Int)⟩]) (by omega) (by simp; omega)) (To.eq fun n => ?_))
    · show impl_Frame_unitPlaces.l6 (n + 1) cs x5 W r k u _ _ _ y H R B C cs _ i _ y _ z p w h r0 l = _
      rw [impl_Frame_unitPlaces.l6, if_pos (by omega), if_pos (by omega), wsucc (by omega), w64 (x := (r : Int) * (rd_T66 l (cs[i])).f2) (by omega) (by omega), w64 (x := (k : Int) * (rd_T66 l (cs[i])).f1) (by omega) (by omega), w64 (by omega) (by omega), w64 (by omega) (by omega)]
    · simp [rowP, List.range'_succ]
include hx hcs in
theorem impl_l5 (x5 : List (List S60)) (W H B R C : Int) (r k i : Nat) (hr : r ≤ 100000) (hk : k ≤ 100000) (hi : i < cs.length) (hi9 : i ≤ 1048576) : ∀ (d y : Nat) (u : List S60), y + d = (rd_T66 l (cs[i])).f2.toNat → u.length + 4 * d ≤ 1000000 →
    To (fun n => impl_Frame_unitPlaces.l5 n cs x5 W (r : Int) (k : Int) u (cs[i]) (rd_T66 l (cs[i])).f1 (rd_T66 l (cs[i])).f2 H R B C cs (cs.length : Int) (i : Int) (rd_T66 l (cs[i])).f2 (y : Int) p w h r0 l)
       (fun n => impl_Frame_unitPlaces.l4 n cs x5 W (r : Int) (k : Int) (u ++ compP (cs[i]) (rd_T66 l (cs[i])) r k y d) H R B C cs (cs.length : Int) ((i + 1 : Nat) : Int) p w h r0 l) := by
  obtain ⟨h0, h1⟩ := hcs (cs[i]) (List.getElem_mem hi)
  obtain ⟨_, g1, g2, _⟩ := compOk_iff.1 (rdC_ok hx _ h0 h1)
  intro d
  induction d with
  | zero =>
    intro y u hy hu
    refine To.step fun n => ?_
    show impl_Frame_unitPlaces.l5 (n + 1) cs x5 W r k u _ _ _ H R B C cs _ i _ y p w h r0 l = _
    rw [impl_Frame_unitPlaces.l5, if_neg (by omega), wsucc (by omega)]
    simp [compP]
  | succ d ih =>
    intro y u hy hu
    refine To.trans (To.step fun n => ?_) (To.trans (impl_l6 p w h r0 l hx cs hcs x5 W H B R C r k i y hr hk hi (by omega) (rd_T66 l (cs[i])).f1.toNat 0 u (by omega) (by omega)) ?_)
    · show impl_Frame_unitPlaces.l5 (n + 1) cs x5 W r k u _ _ _ H R B C cs _ i _ y p w h r0 l = _
      rw [impl_Frame_unitPlaces.l5, if_pos (by omega)]
      rfl
    · have := ih (y + 1) (u ++ rowP (cs[i]) (rd_T66 l (cs[i])) r k y 0 (rd_T66 l (cs[i])).f1.toNat) (by omega) (by rw [List.length_append, rowP_len]; omega)
      refine To.trans this (To.eq fun n => ?_)
      simp [compP, List.range'_succ]
include hx hcs hcl in
theorem impl_l4 (x5 : List (List S60)) (hx5 : x5.length ≤ 1000000) (W H R B : Int) (r k : Nat) (hr : r ≤ 100000) (hk : k ≤ 100000) : ∀ (d i : Nat) (u : List S60), i + d = cs.length → u.length + 16 * d ≤ 1000000 →
    To (fun n => impl_Frame_unitPlaces.l4 n cs x5 W (r : Int) (k : Int) u H R B (k : Int) cs (cs.length : Int) (i : Int) p w h r0 l)
       (fun n => impl_Frame_unitPlaces.l3 n cs (x5 ++ [u ++ unitP l r k (cs.drop i)]) W (r : Int) H R B ((k + 1 : Nat) : Int) p w h r0 l) := by
  intro d
  induction d with
  | zero =>
    intro i u hi hu
    refine To.step fun n => ?_
    show impl_Frame_unitPlaces.l4 (n + 1) cs x5 W r k u H R B k cs _ i p w h r0 l = _
    rw [impl_Frame_unitPlaces.l4, if_neg (by omega), if_pos (by omega), wsucc (by omega), List.drop_eq_nil_of_le (by omega)]
    simp [unitP]
  | succ d ih =>
    intro i u hi hu
    have hil : i < cs.length := by omega
    obtain ⟨h0, h1⟩ := hcs (cs[i]) (List.getElem_mem hil)
    obtain ⟨_, g1, g2, _⟩ := compOk_iff.1 (rdC_ok hx _ h0 h1)
    have hm : (rd_T66 l (cs[i])).f2.toNat * (rd_T66 l (cs[i])).f1.toNat ≤ 4 * 4 := Nat.mul_le_mul (by omega) (by omega)
    refine To.trans (To.step fun n => ?_) (To.trans (impl_l5 p w h r0 l hx cs hcs x5 W H B R (k : Int) r k i hr hk hil (by omega) (rd_T66 l (cs[i])).f2.toNat 0 u (by omega) (by omega)) ?_)
    · show impl_Frame_unitPlaces.l4 (n + 1) cs x5 W r k u H R B k cs _ i p w h r0 l = _
      rw [impl_Frame_unitPlaces.l4, if_pos (by omega), if_pos (by omega), if_pos (by omega), rd_nat cs i hil, if_pos h0, if_pos h1]
      rfl
    · have := ih (i + 1) (u ++ compP (cs[i]) (rd_T66 l (cs[i])) r k 0 (rd_T66 l (cs[i])).f2.toNat) (by omega) (by rw [List.length_append, compP_len]; omega)
      refine To.trans this (To.eq fun n => ?_)
      rw [drop_at cs i hil]
      simp only [unitP, List.flatMap_cons, List.append_assoc]
include hx hcs hcl in
theorem impl_l3 (W : Nat) (hW : W ≤ 100000) (H : Int) (r : Nat) (hr : r ≤ 100000) (hcl2 : 16 * cs.length ≤ 1000000) : ∀ (d k : Nat) (x5 : List (List S60)), k + d = W → x5.length + d ≤ 1000000 →
    To (fun n => impl_Frame_unitPlaces.l3 n cs x5 (W : Int) (r : Int) H (r : Int) (W : Int) (k : Int) p w h r0 l)
       (fun n => impl_Frame_unitPlaces.l2 n cs (x5 ++ (List.range' k d).map fun k => unitP l r k cs) (W : Int) H ((r + 1 : Nat) : Int) p w h r0 l) := by
  intro d
  induction d with
  | zero =>
    intro k x5 hk hx5
    refine To.step fun n => ?_
    show impl_Frame_unitPlaces.l3 (n + 1) cs x5 W r H r W k p w h r0 l = _
    rw [impl_Frame_unitPlaces.l3, if_neg (by omega), wsucc (by omega)]
    simp
  | succ d ih =>
    intro k x5 hk hx5
    refine To.trans (To.step fun n => ?_) (To.trans (impl_l4 p w h r0 l hx cs hcs hcl x5 (by omega) (W : Int) H (r : Int) (W : Int) r k hr (by omega) cs.length 0 [] (by omega) (by simp; omega)) ?_)
    · show impl_Frame_unitPlaces.l3 (n + 1) cs x5 W r H r W k p w h r0 l = _
      rw [impl_Frame_unitPlaces.l3, if_pos (by omega)]
      rfl
    · have := ih (k + 1) (x5 ++ [[] ++ unitP l r k (cs.drop 0)]) (by omega) (by simp; omega)
      refine To.trans this (To.eq fun n => ?_)
      simp [List.range'_succ]
include hx hcs hcl in
theorem impl_l2 (W H : Nat) (hW : W ≤ 256) (hH : H ≤ 1000) (hcl2 : 16 * cs.length ≤ 1000000) : ∀ (d r : Nat) (x5 : List (List S60)), r + d = H → x5.length + W * d ≤ 1000000 →
    To (fun n => impl_Frame_unitPlaces.l2 n cs x5 (W : Int) (H : Int) (r : Int) p w h r0 l)
       (fun _ => some (x5 ++ (List.range' r d).flatMap fun r => (List.range' 0 W).map fun k => unitP l r k cs)) := by
  intro d
  induction d with
  | zero =>
    intro r x5 hr hx5
    refine To.step fun n => ?_
    show impl_Frame_unitPlaces.l2 (n + 1) cs x5 W H r p w h r0 l = _
    rw [impl_Frame_unitPlaces.l2, if_neg (by omega)]
    simp
  | succ d ih =>
    intro r x5 hr hx5
    rw [Nat.mul_succ] at hx5
    refine To.trans (To.step fun n => ?_) (To.trans (impl_l3 p w h r0 l hx cs hcs hcl W (by omega) (H : Int) r (by omega) hcl2 W 0 x5 (by omega) (by omega)) ?_)
    · show impl_Frame_unitPlaces.l2 (n + 1) cs x5 W H r p w h r0 l = _
      rw [impl_Frame_unitPlaces.l2, if_pos (by omega)]
      rfl
    · have := ih (r + 1) (x5 ++ (List.range' 0 W).map fun k => unitP l r k cs) (by omega) (by simp; omega)
      refine To.trans this (To.eq fun n => ?_)
      simp [List.range'_succ]
end
theorem impl_l1 (cs : List Int) (hcs : 0 < cs.length) (W : Nat) (H : Int) (r : Nat) (hr : r ≤ 100000) (hW : W ≤ 100000) : ∀ (d k : Nat) (x5 : List (List S60)), k + d = W → x5.length + d ≤ 2000000 →
    To (fun n => impl_Frame_unitPlaces.l1 n cs x5 (W : Int) (r : Int) H (r : Int) (W : Int) (k : Int)) (fun n => impl_Frame_unitPlaces.l0 n cs (x5 ++ (List.range' k d).map fun k : Nat => [⟨rd cs 0, (r : Int), (k : Int)⟩]) (W : Int) H ((r + 1 : Nat) : Int)) := by
  intro d
  induction d with
  | zero =>
    intro k x5 hk hx5
    refine To.step fun n => ?_
    show impl_Frame_unitPlaces.l1 (n + 1) cs x5 W r H r W k = _
    rw [impl_Frame_unitPlaces.l1, if_neg (by omega), wsucc (by omega)]
    simp
  | succ d ih =>
    intro k x5 hk hx5
    refine To.trans (To.step fun n => ?_) (To.trans (ih (k + 1) (x5 ++ [[⟨rd cs 0, (r : Int), (k : Int)⟩]]) (by omega) (by simp; omega)) (To.eq fun n => ?_))
    · show impl_Frame_unitPlaces.l1 (n + 1) cs x5 W r H r W k = _
      rw [impl_Frame_unitPlaces.l1, if_pos (by omega), if_pos (by omega), if_pos (by omega), wsucc (by omega)]
    · simp [List.range'_succ]
theorem impl_l0 (cs : List Int) (hcs : 0 < cs.length) (W H : Nat) (hW : W ≤ 1024) (hH : H ≤ 1024) : ∀ (d r : Nat) (x5 : List (List S60)), r + d = H → x5.length + 1024 * d ≤ 2000000 →
    To (fun n => impl_Frame_unitPlaces.l0 n cs x5 (W : Int) (H : Int) (r : Int)) (fun _ => some (x5 ++ (List.range' r d).flatMap fun r => (List.range' 0 W).map fun k => [⟨rd cs 0, ((r : Nat) : Int), ((k : Nat) : Int)⟩])) := by
  intro d
  induction d with
  | zero =>
    intro r x5 hr hx5
    refine To.step fun n => ?_
    show impl_Frame_unitPlaces.l0 (n + 1) cs x5 W H r = _
    rw [impl_Frame_unitPlaces.l0, if_neg (by omega)]
    simp
  | succ d ih =>
    intro r x5 hr hx5
    refine To.trans (To.step fun n => ?_) (To.trans (impl_l1 cs hcs W (H : Int) r (by omega) (by omega) W 0 x5 (by omega) (by omega)) (To.trans (ih (r + 1) _ (by omega) (by simp; omega)) (To.eq fun n => ?_)))
    · show impl_Frame_unitPlaces.l0 (n + 1) cs x5 W H r = _
      rw [impl_Frame_unitPlaces.l0, if_pos (by omega)]
      rfl
    · simp [List.range'_succ]
theorem implNeeded_eq {p w h r : Int} {l : List S66} (hb : frameB p w h r l = true) (c : Int) (h0 : 0 ≤ c) (h1 : c < (l.length : Int)) (k : Nat) (hk : 100 ≤ k) : impl_Frame_needed.f k p w h r l c = some (upV (sizeV w h l c).1 8, upV (sizeV w h l c).2 8) := by
  obtain ⟨s1, s2⟩ := sizeV_in hb c h0 h1
  unfold impl_Frame_needed.f
  rw [implSize_eq hb _ h0 h1 k (by omega), Option.bind_some, implUp_eq _ 8 (by omega) (by omega), Option.bind_some, implUp_eq _ 8 (by omega) (by omega)]; rfl
theorem implPlaces_ends {p w h r : Int} {l : List S66} (hb : frameB p w h r l = true) (cs : List Int) (hcs : ∀ c ∈ cs, 0 ≤ c ∧ c < (l.length : Int)) (hc0 : 0 < cs.length) (hcl : cs.length ≤ 4) : ∃ K : Nat, ∀ k : Nat, K ≤ k → impl_Frame_unitPlaces.f k p w h r l cs = some (orderL w h l cs) := by
  unfold impl_Frame_unitPlaces.f orderL
  simp only [Option.bind_some]
  by_cases h1 : cs.length = 1
  · simp only [h1, if_true, show ((1 : Nat) : Int) = 1 from rfl, show (0 : Int) < 1 from by decide]
    have hr0 : 0 ≤ rd cs 0 ∧ rd cs 0 < (l.length : Int) := by
      have this : rd cs ((0 : Nat) : Int) = cs[0] := rd_nat cs 0 hc0
      have e : rd cs 0 = cs[0] := this
      rw [e]; exact hcs _ (List.getElem_mem hc0)
    obtain ⟨s1, s2⟩ := sizeV_in hb (rd cs 0) hr0.1 hr0.2
    have v1 := upV_in (sizeV w h l (rd cs 0)).1 8 (by omega) (by omega)
    have v2 := upV_in (sizeV w h l (rd cs 0)).2 8 (by omega) (by omega)
    refine bind_to 100 (fun k hk => implNeeded_eq hb (rd cs 0) hr0.1 hr0.2 k hk) ?_
    have := impl_l0 cs hc0 (upV (sizeV w h l (rd cs 0)).1 8).toNat (upV (sizeV w h l (rd cs 0)).2 8).toNat (by omega) (by omega) (upV (sizeV w h l (rd cs 0)).2 8).toNat 0 [] (by omega) (by simp; omega)
    rw [Int.toNat_of_nonneg (show 0 ≤ upV (sizeV w h l (rd cs 0)).1 8 by omega), Int.toNat_of_nonneg (show 0 ≤ upV (sizeV w h l (rd cs 0)).2 8 by omega)] at this
    simpa using this.ends
  · have h1' : ¬ ((cs.length : Int) = 1) := by omega
    simp only [h1, h1', if_false]
    obtain ⟨u1, u2⟩ := unitsV_in hb
    refine bind_to 100 (fun k hk => implUnits_eq hb k hk) ?_
    have hmul : (unitsV w h l).1.toNat * (unitsV w h l).2.toNat ≤ 256 * 256 := Nat.mul_le_mul (by omega) (by omega)
    have := impl_l2 p w h r l (frameB_ok hb) cs hcs (by omega) (unitsV w h l).1.toNat (unitsV w h l).2.toNat (by omega) (by omega) (by omega) (unitsV w h l).2.toNat 0 [] (by omega) (by simp; omega)
    rw [Int.toNat_of_nonneg (by omega), Int.toNat_of_nonneg (by omega)] at this
    simpa using this.ends

def risB (n : Int) : Int → List Int → Bool
  | _, [] => true
  | q, c :: cs => decide (0 ≤ c ∧ c ≤ n - 1) && (decide (q < c) && risB n c cs)
theorem risB_in (n : Int) : ∀ (cs : List Int) (q : Int), risB n q cs = true → (∀ c ∈ cs, 0 ≤ c ∧ c < n) ∧ ((cs.length : Int) ≤ n - 1 - q ∨ cs = [])
  | [], q, _ => ⟨by simp, .inr rfl⟩
  | c :: cs, q, h => by
    simp only [risB, Bool.and_eq_true, decide_eq_true_eq] at h
    obtain ⟨h1, h2, h3⟩ := h
    obtain ⟨i1, i2⟩ := risB_in n cs c h3
    refine ⟨?_, .inl ?_⟩
    · intro x hx
      rcases List.mem_cons.1 hx with rfl | hx
      · omega
      · exact i1 x hx
    · rcases i2 with i2 | rfl
      · simp only [List.length_cons]; omega
      · simp; omega
def prevC (cs : List Int) (i : Nat) : Int := if i = 0 then -1 else cs.getD (i - 1) 0
theorem specComps_loop (p w h r : Int) (l : List S66) (hl : l.length ≤ 1048576) (cs : List Int) (hcs : cs.length ≤ 1048576) : ∀ (d k i : Nat), i + d = cs.length → d < k → spec_l04Comps.l0 k cs (i : Int) p w h r l = some (risB (l.length : Int) (prevC cs i) (cs.drop i) && decide ((cs.length : Int) > 0)) := by
  intro d
  induction d with
  | zero =>
    intro k i hi hk
    obtain ⟨k, rfl⟩ : ∃ m, k = m + 1 := ⟨k - 1, by omega⟩
    rw [spec_l04Comps.l0, if_neg (by omega), List.drop_eq_nil_of_le (by omega), risB, Bool.true_and]
  | succ d ih =>
    intro k i hi hk
    obtain ⟨k, rfl⟩ : ∃ m, k = m + 1 := ⟨k - 1, by omega⟩
    have hil : i < cs.length := by omega
    have hn : prevC cs (i + 1) = cs[i] := by
      unfold prevC
      rw [if_neg (by omega), Nat.add_sub_cancel, List.getD_eq_getElem?_getD, List.getElem?_eq_getElem hil]; rfl
    rw [spec_l04Comps.l0, if_pos (by omega), if_pos (by omega), rd_nat cs i hil, w64 (x := (l.length : Int) - 1) (by omega) (by omega), between_eq, Option.bind_some, wsucc (by omega), ih k (i + 1) (by omega) (by omega), drop_at cs i hil, risB, hn]
    by_cases h1 : 0 ≤ cs[i] ∧ cs[i] ≤ (l.length : Int) - 1
    · rw [decide_eq_true h1, if_pos rfl, Bool.true_and]
      by_cases h0 : (i : Int) > 0
      · obtain ⟨j, rfl⟩ : ∃ j, i = j + 1 := ⟨i - 1, by omega⟩
        have hp : prevC cs (j + 1) = cs[j] := by
          unfold prevC
          rw [if_neg (by omega), Nat.add_sub_cancel, List.getD_eq_getElem?_getD, List.getElem?_eq_getElem (by omega)]; rfl
        have e : wrap64 (((j + 1 : Nat) : Int) - 1) = (j : Int) := by rw [w64 (by omega) (by omega)]; omega
        rw [if_pos h0, e, if_pos (by omega), if_pos (by omega), rd_nat cs j (by omega), hp]
        by_cases h2 : cs[j] ≥ cs[j + 1]
        · rw [if_pos h2, decide_eq_false (show ¬ cs[j] < cs[j + 1] by omega)]; rfl
        · rw [if_neg h2, decide_eq_true (show cs[j] < cs[j + 1] by omega), Bool.true_and]
      · rw [if_neg h0]
        have : prevC cs i = -1 := by unfold prevC; rw [if_pos (by omega)]
        rw [this, decide_eq_true (show -1 < cs[i] by omega), Bool.true_and]
    · rw [decide_eq_false h1, if_neg (by decide)]; rfl
theorem implComps_loop (p w h r : Int) (l : List S66) (hl : l.length ≤ 1048576) (cs : List Int) (hcs : cs.length ≤ 1048576) (hb : frameB p w h r l = true) : ∀ (d k i : Nat), i + d = cs.length → 100 + d < k → impl_Frame_areComps.l0 k cs cs (cs.length : Int) (i : Int) p w h r l = some (risB (l.length : Int) (prevC cs i) (cs.drop i) && decide ((cs.length : Int) > 0)) := by
  intro d
  induction d with
  | zero =>
    intro k i hi hk
    obtain ⟨k, rfl⟩ : ∃ m, k = m + 1 := ⟨k - 1, by omega⟩
    rw [impl_Frame_areComps.l0, if_neg (by omega), List.drop_eq_nil_of_le (by omega), risB, Bool.true_and]
  | succ d ih =>
    intro k i hi hk
    obtain ⟨k, rfl⟩ : ∃ m, k = m + 1 := ⟨k - 1, by omega⟩
    have hil : i < cs.length := by omega
    have hn : prevC cs (i + 1) = cs[i] := by
      unfold prevC
      rw [if_neg (by omega), Nat.add_sub_cancel, List.getD_eq_getElem?_getD, List.getElem?_eq_getElem hil]; rfl
    have hci : compIn p w h r l cs[i] = decide (0 ≤ cs[i] ∧ cs[i] ≤ (l.length : Int) - 1) := by unfold compIn; rw [hb, Bool.true_and]
    rw [impl_Frame_areComps.l0, if_pos (by omega), if_pos (by omega), if_pos (by omega), rd_nat cs i hil, implHas_eq p w h r l hl _ k (by omega), hci, Option.bind_some, wsucc (by omega), ih k (i + 1) (by omega) (by omega), drop_at cs i hil, risB, hn]
    by_cases h1 : 0 ≤ cs[i] ∧ cs[i] ≤ (l.length : Int) - 1
    · rw [decide_eq_true h1, if_pos rfl, Bool.true_and]
      by_cases h0 : (i : Int) > 0
      · obtain ⟨j, rfl⟩ : ∃ j, i = j + 1 := ⟨i - 1, by omega⟩
        have hp : prevC cs (j + 1) = cs[j] := by
          unfold prevC
          rw [if_neg (by omega), Nat.add_sub_cancel, List.getD_eq_getElem?_getD, List.getElem?_eq_getElem (by omega)]; rfl
        have e : wrap64 (((j + 1 : Nat) : Int) - 1) = (j : Int) := by rw [w64 (by omega) (by omega)]; omega
        rw [if_pos h0, e, if_pos (by omega), if_pos (by omega), rd_nat cs j (by omega), hp]
        by_cases h2 : cs[j] ≥ cs[j + 1]
        · rw [if_pos h2, decide_eq_false (show ¬ cs[j] < cs[j + 1] by omega)]; rfl
        · rw [if_neg h2, decide_eq_true (show cs[j] < cs[j + 1] by omega), Bool.true_and]
      · rw [if_neg h0]
        have : prevC cs i = -1 := by unfold prevC; rw [if_pos (by omega)]
        rw [this, decide_eq_true (show -1 < cs[i] by omega), Bool.true_and]
    · rw [decide_eq_false h1, if_neg (by decide)]; rfl
def compsB (l : List S66) (cs : List Int) : Bool := risB (l.length : Int) (-1) cs && decide ((cs.length : Int) > 0)
theorem specComps_eq (p w h r : Int) (l : List S66) (hl : l.length ≤ 1048576) (cs : List Int) (hcs : cs.length ≤ 1048576) (k : Nat) (hk : cs.length < k) : spec_l04Comps.f k p w h r l cs = some (compsB l cs) := by
  unfold spec_l04Comps.f
  exact specComps_loop p w h r l hl cs hcs cs.length k 0 (by omega) hk
theorem implComps_eq (p w h r : Int) (l : List S66) (hl : l.length ≤ 1048576) (cs : List Int) (hcs : cs.length ≤ 1048576) (k : Nat) (hk : cs.length + 101 < k) : impl_Frame_areComps.f k p w h r l cs = some (frameB p w h r l && compsB l cs) := by
  unfold impl_Frame_areComps.f
  by_cases hb : frameB p w h r l = true
  · rw [hb, Bool.true_and]
    exact implComps_loop p w h r l hl cs hcs hb cs.length k 0 (by omega) (by omega)
  · have hb' : frameB p w h r l = false := by simpa using hb
    rw [hb', Bool.false_and]
    obtain ⟨k, rfl⟩ : ∃ m, k = m + 1 := ⟨k - 1, by omega⟩
    rw [impl_Frame_areComps.l0]
    by_cases h0 : (0 : Int) < (cs.length : Int)
    · rw [if_pos h0, if_pos (by omega), if_pos h0, implHas_eq p w h r l hl _ k (by omega), Option.bind_some]
      have : compIn p w h r l (rd cs 0) = false := by unfold compIn; rw [hb', Bool.false_and]
      rw [this, if_neg (by decide)]
    · rw [if_neg h0, decide_eq_false (by omega)]

theorem orderL_unit {p w h r : Int} {l : List S66} (hb : frameB p w h r l = true) (cs : List Int) (hcs : ∀ c ∈ cs, 0 ≤ c ∧ c < (l.length : Int)) (hcl : cs.length ≤ 4) : ∀ u ∈ orderL w h l cs, u.length ≤ 64 := by
  intro u hu
  unfold orderL at hu
  split at hu
  · obtain ⟨a, _, ha⟩ := List.mem_flatMap.1 hu
    obtain ⟨b, _, rfl⟩ := List.mem_map.1 ha
    simp
  · obtain ⟨a, _, ha⟩ := List.mem_flatMap.1 hu
    obtain ⟨b, _, rfl⟩ := List.mem_map.1 ha
    have := unitP_len l (frameB_ok hb) a b cs hcs
    omega
theorem flat_lenN {α : Type} (H W : Nat) (f : Nat → Nat → α) (s : Nat) : ((List.range' s H).flatMap fun r => (List.range' 0 W).map fun k => f r k).length = H * W := by
  induction H generalizing s with
  | zero => simp
  | succ H ih => rw [List.range'_succ, List.flatMap_cons, List.length_append, ih]; simp [Nat.succ_mul, Nat.add_comm]
theorem orderL_len {p w h r : Int} {l : List S66} (hb : frameB p w h r l = true) (cs : List Int) (hcs : ∀ c ∈ cs, 0 ≤ c ∧ c < (l.length : Int)) (hc0 : 0 < cs.length) : (orderL w h l cs).length ≤ 1048576 := by
  obtain ⟨u1, u2⟩ := unitsV_in hb
  have hr0 : 0 ≤ rd cs 0 ∧ rd cs 0 < (l.length : Int) := by
    have this : rd cs ((0 : Nat) : Int) = cs[0] := rd_nat cs 0 hc0
    have e : rd cs 0 = cs[0] := this
    rw [e]; exact hcs _ (List.getElem_mem hc0)
  obtain ⟨s1, s2⟩ := sizeV_in hb (rd cs 0) hr0.1 hr0.2
  have v1 := upV_in (sizeV w h l (rd cs 0)).1 8 (by omega) (by omega)
  have v2 := upV_in (sizeV w h l (rd cs 0)).2 8 (by omega) (by omega)
  unfold orderL
  split
  · rw [flat_lenN]
    have := Nat.mul_le_mul (show (upV (sizeV w h l (rd cs 0)).2 8).toNat ≤ 1024 by omega) (show (upV (sizeV w h l (rd cs 0)).1 8).toNat ≤ 1024 by omega)
    omega
  · rw [flat_lenN]
    have := Nat.mul_le_mul (show (unitsV w h l).2.toNat ≤ 1024 by omega) (show (unitsV w h l).1.toNat ≤ 1024 by omega)
    omega
theorem rdL4_nat (o : List (List S60)) (i : Nat) (h : i < o.length) : rd_L3 o (i : Int) = o[i] := by simp [rd_L3, List.getD_eq_getElem?_getD, h]
theorem specFlat_loop (o : List (List S60)) (ho : o.length ≤ 1048576) (hu : ∀ u ∈ o, u.length ≤ 64) : ∀ (d k i : Nat) (a : List S60), i + d = o.length → d < k → a.length ≤ 64 * i → spec_OrderOf.l0 k a o (i : Int) = some (a ++ (o.drop i).flatten) := by
  intro d
  induction d with
  | zero =>
    intro k i a hi hk ha
    obtain ⟨k, rfl⟩ : ∃ m, k = m + 1 := ⟨k - 1, by omega⟩
    rw [spec_OrderOf.l0, if_neg (by omega), List.drop_eq_nil_of_le (by omega)]; simp
  | succ d ih =>
    intro k i a hi hk ha
    obtain ⟨k, rfl⟩ : ∃ m, k = m + 1 := ⟨k - 1, by omega⟩
    have hil : i < o.length := by omega
    have := hu o[i] (List.getElem_mem hil)
    rw [spec_OrderOf.l0, if_pos (by omega), if_pos (by omega), rdL4_nat o i hil, if_pos (by omega), wsucc (by omega), ih k (i + 1) _ (by omega) (by omega) (by rw [List.length_append]; omega), drop_at o i hil, List.flatten_cons, List.append_assoc]
theorem implFlat_loop (o : List (List S60)) (ho : o.length ≤ 1048576) (hu : ∀ u ∈ o, u.length ≤ 64) : ∀ (d k i : Nat) (a : List S60), i + d = o.length → d < k → a.length ≤ 64 * i → impl_OrderOf.l0 k a o (o.length : Int) (i : Int) = some (a ++ (o.drop i).flatten) := by
  intro d
  induction d with
  | zero =>
    intro k i a hi hk ha
    obtain ⟨k, rfl⟩ : ∃ m, k = m + 1 := ⟨k - 1, by omega⟩
    rw [impl_OrderOf.l0, if_neg (by omega), List.drop_eq_nil_of_le (by omega)]; simp
  | succ d ih =>
    intro k i a hi hk ha
    obtain ⟨k, rfl⟩ : ∃ m, k = m + 1 := ⟨k - 1, by omega⟩
    have hil : i < o.length := by omega
    have := hu o[i] (List.getElem_mem hil)
    rw [impl_OrderOf.l0, if_pos (by omega), if_pos (by omega), if_pos (by omega), rdL4_nat o i hil, if_pos (by omega), wsucc (by omega), ih k (i + 1) _ (by omega) (by omega) (by rw [List.length_append]; omega), drop_at o i hil, List.flatten_cons, List.append_assoc]
def orderR (p w h r : Int) (l : List S66) (cs : List Int) : List S60 := if frameB p w h r l && compsB l cs then (orderL w h l cs).flatten else []
theorem flatten_len {α : Type} (n : Nat) : ∀ o : List (List α), (∀ u ∈ o, u.length ≤ n) → o.flatten.length ≤ n * o.length
  | [], _ => by simp
  | u :: o, h => by
    have h1 := flatten_len n o (fun x hx => h x (by simp [hx]))
    have h2 := h u (by simp)
    rw [List.flatten_cons, List.length_append, List.length_cons, Nat.mul_succ]
    omega
theorem compsB_parts {l : List S66} {cs : List Int} (hl4 : (l.length : Int) ≤ 4) (hc : compsB l cs = true) : (∀ c ∈ cs, 0 ≤ c ∧ c < (l.length : Int)) ∧ 0 < cs.length ∧ cs.length ≤ 4 := by
  unfold compsB at hc
  rw [Bool.and_eq_true, decide_eq_true_eq] at hc
  obtain ⟨i1, i2⟩ := risB_in _ _ _ hc.1
  refine ⟨i1, by omega, ?_⟩
  rcases i2 with h | h <;> first | omega | (rw [h]; simp)
theorem orderR_len (p w h r : Int) (l : List S66) (cs : List Int) : (orderR p w h r l cs).length ≤ 67108864 := by
  unfold orderR
  by_cases hbc : (frameB p w h r l && compsB l cs) = true
  · rw [if_pos hbc]
    rw [Bool.and_eq_true] at hbc
    obtain ⟨c1, c2, c3⟩ := compsB_parts (frameB_parts hbc.1).2.2.1.2 hbc.2
    have h1 := flatten_len 64 _ (orderL_unit hbc.1 cs c1 c3)
    have h2 := orderL_len hbc.1 cs c1 c2
    omega
  · rw [if_neg hbc]; simp
theorem specOrderOf_ends (p w h r : Int) (l : List S66) (hl : l.length ≤ 1048576) (cs : List Int) (hcs : cs.length ≤ 1048576) : ∃ K : Nat, ∀ k : Nat, K ≤ k → spec_OrderOf.f k p w h r l cs = some (orderR p w h r l cs) := by
  unfold spec_OrderOf.f orderR
  simp only [Option.bind_some]
  refine bind_to 100 (fun k hk => specFrame_eq p w h r l k hk) ?_
  by_cases hb : frameB p w h r l = true
  · simp only [hb, if_true, Bool.true_and]
    refine bind_to (cs.length + 1) (fun k hk => specComps_eq p w h r l hl cs hcs k (by omega)) ?_
    by_cases hc : compsB l cs = true
    · obtain ⟨c1, c2, c3⟩ := compsB_parts (frameB_parts hb).2.2.1.2 hc
      obtain ⟨K, hK⟩ := specOrder_ends hb cs c1 c2 c3
      have h2 := orderL_len hb cs c1 c2
      refine ⟨K + 1048578, fun k hk => ?_⟩
      obtain ⟨k, rfl⟩ : ∃ m, k = m + 1 := ⟨k - 1, by omega⟩
      rw [hc, if_pos rfl, spec_OrderOf.j0, if_neg (by decide), hK k (by omega), Option.bind_some]
      exact specFlat_loop _ h2 (orderL_unit hb cs c1 c3) (orderL w h l cs).length k 0 [] (by omega) (by omega) (by simp)
    · refine ⟨1, fun k hk => ?_⟩
      obtain ⟨k, rfl⟩ : ∃ m, k = m + 1 := ⟨k - 1, by omega⟩
      have hc' : compsB l cs = false := by simpa using hc
      rw [hc', spec_OrderOf.j0, if_pos (by rfl)]; rfl
  · have hb' : frameB p w h r l = false := by simpa using hb
    refine ⟨1, fun k hk => ?_⟩
    obtain ⟨k, rfl⟩ : ∃ m, k = m + 1 := ⟨k - 1, by omega⟩
    rw [hb', if_neg (by decide), spec_OrderOf.j0, if_pos rfl]; rfl
theorem implOrderOf_ends (p w h r : Int) (l : List S66) (hl : l.length ≤ 1048576) (cs : List Int) (hcs : cs.length ≤ 1048576) : ∃ K : Nat, ∀ k : Nat, K ≤ k → impl_OrderOf.f k p w h r l cs = some (orderR p w h r l cs) := by
  unfold impl_OrderOf.f orderR
  refine bind_to (cs.length + 102) (fun k hk => implComps_eq p w h r l hl cs hcs k (by omega)) ?_
  by_cases hbc : (frameB p w h r l && compsB l cs) = true
  · simp only [hbc, if_true]
    rw [Bool.and_eq_true] at hbc
    obtain ⟨hb, hc⟩ := hbc
    obtain ⟨c1, c2, c3⟩ := compsB_parts (frameB_parts hb).2.2.1.2 hc
    obtain ⟨K, hK⟩ := implPlaces_ends hb cs c1 c2 c3
    have h2 := orderL_len hb cs c1 c2
    refine bind_to K hK ⟨1048578, fun k hk => ?_⟩
    exact implFlat_loop _ h2 (orderL_unit hb cs c1 c3) (orderL w h l cs).length k 0 [] (by omega) (by omega) (by simp)
  · exact ⟨0, fun k _ => by rw [if_neg hbc, if_neg hbc]⟩

theorem upV_le {a b q : Int} (hb : 1 ≤ b) : upV a b ≤ q ↔ a ≤ q * b := by
  unfold upV
  constructor
  · intro h
    have h1 : (a + b - 1) / b < q + 1 := by omega
    have h2 := (Int.ediv_lt_iff_lt_mul (show 0 < b by omega)).1 h1
    rw [Int.add_mul] at h2; omega
  · intro h
    have h2 : a + b - 1 < (q + 1) * b := by rw [Int.add_mul]; omega
    have := Int.ediv_lt_of_lt_mul (show 0 < b by omega) h2
    omega
theorem lt_upV {a b q : Int} (hb : 1 ≤ b) : q < upV a b ↔ q * b < a := by
  have := upV_le (a := a) (b := b) (q := q) hb
  omega
theorem idx_inj {b r1 r2 c1 c2 : Int} (h1 : 0 ≤ c1 ∧ c1 < b) (h2 : 0 ≤ c2 ∧ c2 < b) (e : r1 * b + c1 = r2 * b + c2) : r1 = r2 ∧ c1 = c2 := by
  have e1 : (c1 + r1 * b) / b = r1 := by rw [Int.add_mul_ediv_right _ _ (by omega), Int.ediv_eq_zero_of_lt h1.1 h1.2]; omega
  have e2 : (c2 + r2 * b) / b = r2 := by rw [Int.add_mul_ediv_right _ _ (by omega), Int.ediv_eq_zero_of_lt h2.1 h2.2]; omega
  have e3 : c1 + r1 * b = c2 + r2 * b := by omega
  have e4 : r1 = r2 := by rw [← e1, ← e2, e3]
  subst e4
  exact ⟨rfl, by omega⟩
theorem mem_unit {l : List S66} {r k : Nat} {cs : List Int} {q : S60} : q ∈ unitP l r k cs ↔ ∃ c ∈ cs, ∃ y z : Nat, y < (rd_T66 l c).f2.toNat ∧ z < (rd_T66 l c).f1.toNat ∧ q = ⟨c, (r : Int) * (rd_T66 l c).f2 + (y : Int), (k : Int) * (rd_T66 l c).f1 + (z : Int)⟩ := by
  unfold unitP
  rw [List.mem_flatMap]
  constructor
  · rintro ⟨c, hc, h⟩
    unfold compP rowP at h
    obtain ⟨y, hy, h⟩ := List.mem_flatMap.1 h
    obtain ⟨z, hz, rfl⟩ := List.mem_map.1 h
    have hy := List.mem_range'_1.1 hy
    have hz := List.mem_range'_1.1 hz
    exact ⟨c, hc, y, z, by omega, by omega, rfl⟩
  · rintro ⟨c, hc, y, z, hy, hz, rfl⟩
    refine ⟨c, hc, ?_⟩
    unfold compP rowP
    exact List.mem_flatMap.2 ⟨y, List.mem_range'_1.2 (by omega), List.mem_map.2 ⟨z, List.mem_range'_1.2 (by omega), rfl⟩⟩
theorem unit_ne {l : List S66} {r1 k1 r2 k2 : Nat} {cs : List Int} (hne : r1 ≠ r2 ∨ k1 ≠ k2) : ∀ x ∈ unitP l r1 k1 cs, ∀ y ∈ unitP l r2 k2 cs, x ≠ y := by
  intro x hx y hy e
  obtain ⟨c, _, y1, z1, hy1, hz1, rfl⟩ := mem_unit.1 hx
  obtain ⟨c', _, y2, z2, hy2, hz2, e2⟩ := mem_unit.1 hy
  rw [e2] at e
  simp only [S60.mk.injEq] at e
  obtain ⟨rfl, e1, e3⟩ := e
  have a := idx_inj (b := (rd_T66 l c).f2) (by omega) (by omega) e1
  have b := idx_inj (b := (rd_T66 l c).f1) (by omega) (by omega) e3
  omega
theorem unit_nodup {l : List S66} {r k : Nat} {cs : List Int} (hcs : cs.Pairwise (· ≠ ·)) : (unitP l r k cs).Pairwise (· ≠ ·) := by
  unfold unitP
  rw [List.pairwise_flatMap]
  refine ⟨fun c _ => ?_, hcs.imp ?_⟩
  · unfold compP
    rw [List.pairwise_flatMap]
    refine ⟨fun y _ => ?_, (List.pairwise_lt_range' (step := 1)).imp ?_⟩
    · unfold rowP
      rw [List.pairwise_map]
      refine (List.pairwise_lt_range' (step := 1)).imp ?_
      intro a b hab e
      simp only [S60.mk.injEq] at e
      omega
    · intro y1 y2 hy a ha b hb e
      unfold rowP at ha hb
      obtain ⟨z1, _, rfl⟩ := List.mem_map.1 ha
      obtain ⟨z2, _, rfl⟩ := List.mem_map.1 hb
      simp only [S60.mk.injEq] at e
      omega
  · intro c1 c2 hc a ha b hb e
    unfold compP rowP at ha hb
    obtain ⟨y1, _, ha⟩ := List.mem_flatMap.1 ha
    obtain ⟨z1, _, rfl⟩ := List.mem_map.1 ha
    obtain ⟨y2, _, hb⟩ := List.mem_flatMap.1 hb
    obtain ⟨z2, _, rfl⟩ := List.mem_map.1 hb
    simp only [S60.mk.injEq] at e
    exact hc e.1
theorem order_nodup (w h : Int) (l : List S66) (cs : List Int) (hcs : cs.Pairwise (· ≠ ·)) : (orderL w h l cs).flatten.Pairwise (· ≠ ·) := by
  unfold orderL
  split
  · rw [List.pairwise_flatten]
    refine ⟨fun u hu => ?_, ?_⟩
    · obtain ⟨r, _, hu⟩ := List.mem_flatMap.1 hu
      obtain ⟨k, _, rfl⟩ := List.mem_map.1 hu
      simp
    · rw [List.pairwise_flatMap]
      refine ⟨fun r _ => ?_, (List.pairwise_lt_range' (step := 1)).imp ?_⟩
      · rw [List.pairwise_map]
        refine (List.pairwise_lt_range' (step := 1)).imp ?_
        intro a b hab x hx y hy e
        simp only [List.mem_singleton] at hx hy
        subst hx; subst hy
        simp only [S60.mk.injEq] at e
        omega
      · intro r1 r2 hr a ha b hb x hx y hy e
        obtain ⟨k1, _, rfl⟩ := List.mem_map.1 ha
        obtain ⟨k2, _, rfl⟩ := List.mem_map.1 hb
        simp only [List.mem_singleton] at hx hy
        subst hx; subst hy
        simp only [S60.mk.injEq] at e
        omega
  · rw [List.pairwise_flatten]
    refine ⟨fun u hu => ?_, ?_⟩
    · obtain ⟨r, _, hu⟩ := List.mem_flatMap.1 hu
      obtain ⟨k, _, rfl⟩ := List.mem_map.1 hu
      exact unit_nodup hcs
    · rw [List.pairwise_flatMap]
      refine ⟨fun r _ => ?_, (List.pairwise_lt_range' (step := 1)).imp ?_⟩
      · rw [List.pairwise_map]
        refine (List.pairwise_lt_range' (step := 1)).imp ?_
        intro a b hab
        exact unit_ne (by omega)
      · intro r1 r2 hr a ha b hb
        obtain ⟨k1, _, rfl⟩ := List.mem_map.1 ha
        obtain ⟨k2, _, rfl⟩ := List.mem_map.1 hb
        exact unit_ne (by omega)
theorem need_in {p w h r : Int} {l : List S66} (hb : frameB p w h r l = true) (c : Int) (h0 : 0 ≤ c) (h1 : c < (l.length : Int)) : upV (sizeV w h l c).1 8 ≤ (blocksV w h l c).1 ∧ upV (sizeV w h l c).2 8 ≤ (blocksV w h l c).2 := by
  obtain ⟨_, g1, g2, _⟩ := compOk_iff.1 (rdC_ok (frameB_ok hb) c h0 h1)
  obtain ⟨m1, m2⟩ := mostG_in l 1 1 (frameB_ok hb) (by omega) (by omega)
  have key : ∀ a m f : Int, 1 ≤ m → 1 ≤ f → upV (upV (a * f) m) 8 ≤ upV a (8 * m) * f := by
    intro a m f hm hf
    rw [upV_le (by omega), upV_le hm]
    have h1 := (upV_le (a := a) (b := 8 * m) (q := upV a (8 * m)) (by omega)).1 (by omega)
    have h2 := Int.mul_le_mul_of_nonneg_right h1 (show (0 : Int) ≤ f by omega)
    have e : upV a (8 * m) * f * 8 * m = upV a (8 * m) * (8 * m) * f := by
      rw [Int.mul_assoc (upV a (8 * m) * f), Int.mul_right_comm]
    omega
  exact ⟨key w _ _ (by omega) (by omega), key h _ _ (by omega) (by omega)⟩
theorem order_mem {p w h r : Int} {l : List S66} (hb : frameB p w h r l = true) {cs : List Int} (hcs : ∀ c ∈ cs, 0 ≤ c ∧ c < (l.length : Int)) (h1 : 0 < cs.length) {q : S60} (hq : q ∈ (orderL w h l cs).flatten) : q.f0 ∈ cs ∧ (0 ≤ q.f1 ∧ q.f1 < (blocksV w h l q.f0).2) ∧ (0 ≤ q.f2 ∧ q.f2 < (blocksV w h l q.f0).1) := by
  obtain ⟨u, hu, hq⟩ := List.mem_flatten.1 hq
  unfold orderL at hu
  by_cases hc : cs.length = 1
  · rw [if_pos hc] at hu
    obtain ⟨r, hr, hu⟩ := List.mem_flatMap.1 hu
    obtain ⟨k, hk, rfl⟩ := List.mem_map.1 hu
    have hr := List.mem_range'_1.1 hr
    have hk := List.mem_range'_1.1 hk
    simp only [List.mem_singleton] at hq
    subst hq
    have e : rd cs 0 = cs[0] := rd_nat cs 0 h1
    have hm : rd cs 0 ∈ cs := by rw [e]; exact List.getElem_mem h1
    obtain ⟨a, b⟩ := hcs _ hm
    obtain ⟨n1, n2⟩ := need_in hb _ a b
    exact ⟨hm, by simp only; omega, by simp only; omega⟩
  · rw [if_neg hc] at hu
    obtain ⟨r, hr, hu⟩ := List.mem_flatMap.1 hu
    obtain ⟨k, hk, rfl⟩ := List.mem_map.1 hu
    have hr := List.mem_range'_1.1 hr
    have hk := List.mem_range'_1.1 hk
    obtain ⟨c, hm, y, z, hy, hz, rfl⟩ := mem_unit.1 hq
    obtain ⟨a, b⟩ := hcs _ hm
    obtain ⟨_, g1, g2, _⟩ := compOk_iff.1 (rdC_ok (frameB_ok hb) c a b)
    have key : ∀ (r y : Nat) (u f : Int), (r : Int) < u → (y : Int) < f → 0 ≤ (r : Int) * f + y ∧ (r : Int) * f + y < u * f := by
      intro r y u f hr hy
      have h1 := Int.mul_le_mul_of_nonneg_right (show (r : Int) + 1 ≤ u by omega) (show (0 : Int) ≤ f by omega)
      rw [Int.add_mul] at h1
      have h2 := Int.mul_nonneg (show (0 : Int) ≤ (r : Int) by omega) (show (0 : Int) ≤ f by omega)
      omega
    exact ⟨hm, key r y _ _ (by omega) (by omega), key k z _ _ (by omega) (by omega)⟩
theorem order_cov {p w h r : Int} {l : List S66} (hb : frameB p w h r l = true) {cs : List Int} (hcs : ∀ c ∈ cs, 0 ≤ c ∧ c < (l.length : Int)) (h1 : 0 < cs.length) {c : Int} (hc : c ∈ cs) (y x : Nat) (hy : (y : Int) < upV (sizeV w h l c).2 8) (hx : (x : Int) < upV (sizeV w h l c).1 8) : (⟨c, (y : Int), (x : Int)⟩ : S60) ∈ (orderL w h l cs).flatten := by
  obtain ⟨a, b⟩ := hcs _ hc
  unfold orderL
  rw [List.mem_flatten]
  by_cases hc1 : cs.length = 1
  · rw [if_pos hc1]
    obtain ⟨d, rfl⟩ := List.length_eq_one_iff.1 hc1
    obtain rfl : c = d := by simpa using hc
    exact ⟨[⟨c, (y : Int), (x : Int)⟩], List.mem_flatMap.2 ⟨y, List.mem_range'_1.2 (by show 0 ≤ y ∧ y < 0 + (upV (sizeV w h l c).2 8).toNat; omega), List.mem_map.2 ⟨x, List.mem_range'_1.2 (by show 0 ≤ x ∧ x < 0 + (upV (sizeV w h l c).1 8).toNat; omega), rfl⟩⟩, by simp⟩
  · rw [if_neg hc1]
    obtain ⟨n1, n2⟩ := need_in hb c a b
    obtain ⟨_, g1, g2, _⟩ := compOk_iff.1 (rdC_ok (frameB_ok hb) c a b)
    have key : ∀ (y : Nat) (u f : Int), 1 ≤ f → (y : Int) < u * f → ∃ r z : Nat, (r : Int) < u ∧ z < f.toNat ∧ (y : Int) = (r : Int) * f + (z : Int) := by
      intro y u f hf hy
      have h2 := Int.ediv_nonneg (show (0 : Int) ≤ (y : Int) by omega) (show (0 : Int) ≤ f by omega)
      have h3 := Int.emod_nonneg (y : Int) (show f ≠ 0 by omega)
      have h4 := Int.emod_lt_of_pos (y : Int) (show 0 < f by omega)
      have h5 := Int.mul_ediv_add_emod (y : Int) f
      have h6 := Int.ediv_lt_of_lt_mul (show 0 < f by omega) hy
      refine ⟨((y : Int) / f).toNat, ((y : Int) % f).toNat, by omega, by omega, ?_⟩
      rw [Int.toNat_of_nonneg h2, Int.toNat_of_nonneg h3, Int.mul_comm]; omega
    obtain ⟨r1, y1, q1, q2, q3⟩ := key y (unitsV w h l).2 (rd_T66 l c).f2 (by omega) (by have : (blocksV w h l c).2 = (unitsV w h l).2 * (rd_T66 l c).f2 := rfl; omega)
    obtain ⟨k1, x1, p1, p2, p3⟩ := key x (unitsV w h l).1 (rd_T66 l c).f1 (by omega) (by have : (blocksV w h l c).1 = (unitsV w h l).1 * (rd_T66 l c).f1 := rfl; omega)
    refine ⟨unitP l r1 k1 cs, List.mem_flatMap.2 ⟨r1, List.mem_range'_1.2 (by omega), List.mem_map.2 ⟨k1, List.mem_range'_1.2 (by omega), rfl⟩⟩, ?_⟩
    exact mem_unit.2 ⟨c, hc, y1, x1, q2, p2, by rw [q3, p3]⟩
theorem risB_pw (n : Int) : ∀ (cs : List Int) (q : Int), risB n q cs = true → cs.Pairwise (· < ·) ∧ ∀ c ∈ cs, q < c
  | [], q, _ => ⟨List.Pairwise.nil, by simp⟩
  | c :: cs, q, h => by
    simp only [risB, Bool.and_eq_true, decide_eq_true_eq] at h
    obtain ⟨h1, h2, h3⟩ := h
    obtain ⟨i1, i2⟩ := risB_pw n cs c h3
    refine ⟨List.pairwise_cons.2 ⟨fun a ha => i2 a ha, i1⟩, ?_⟩
    intro x hx
    rcases List.mem_cons.1 hx with rfl | hx
    · exact h2
    · have := i2 x hx; omega

theorem flat_len {α : Type} (H W : Nat) (f : Nat → Nat → α) (s : Nat) : ((List.range' s H).flatMap fun r => (List.range' 0 W).map fun k => f r k).length = H * W := by
  induction H generalizing s with
  | zero => simp
  | succ H ih => rw [List.range'_succ, List.flatMap_cons, List.length_append, ih]; simp [Nat.succ_mul, Nat.add_comm]
def unitsN (p w h r : Int) (l : List S66) (cs : List Int) : Int := if frameB p w h r l && compsB l cs then ((orderL w h l cs).length : Int) else 0
theorem specUnitsOf_ends (p w h r : Int) (l : List S66) (hl : l.length ≤ 1048576) (cs : List Int) (hcs : cs.length ≤ 1048576) : ∃ K : Nat, ∀ k : Nat, K ≤ k → spec_UnitsOf.f k p w h r l cs = some (unitsN p w h r l cs) := by
  unfold spec_UnitsOf.f unitsN
  refine bind_to 100 (fun k hk => specFrame_eq p w h r l k hk) ?_
  by_cases hb : frameB p w h r l = true
  · simp only [hb, if_true, Bool.true_and]
    refine bind_to (cs.length + 1) (fun k hk => specComps_eq p w h r l hl cs hcs k (by omega)) ?_
    by_cases hc : compsB l cs = true
    · simp only [hc, if_true]
      have hc' := hc
      unfold compsB at hc'
      rw [Bool.and_eq_true, decide_eq_true_eq] at hc'
      obtain ⟨i1, i2⟩ := risB_in _ _ _ hc'.1
      have hl4 := (frameB_parts hb).2.2.1
      obtain ⟨K, hK⟩ := specOrder_ends hb cs i1 (by omega) (by rcases i2 with h | h <;> first | omega | (rw [h]; simp))
      refine bind_to K hK ⟨0, fun k _ => rfl⟩
    · exact ⟨0, fun k _ => by simp [hc]⟩
  · have hb' : frameB p w h r l = false := by simpa using hb
    exact ⟨0, fun k _ => by simp [hb']⟩
theorem implUnitsOf_eq (p w h r : Int) (l : List S66) (hl : l.length ≤ 1048576) (cs : List Int) (hcs : cs.length ≤ 1048576) (k : Nat) (hk : cs.length + 200 < k) : impl_UnitsOf.f k p w h r l cs = some (unitsN p w h r l cs) := by
  unfold impl_UnitsOf.f unitsN
  rw [implComps_eq p w h r l hl cs hcs k (by omega), Option.bind_some]
  by_cases hbc : (frameB p w h r l && compsB l cs) = true
  · rw [if_pos hbc, if_pos hbc]
    rw [Bool.and_eq_true] at hbc
    obtain ⟨hb, hc⟩ := hbc
    unfold compsB at hc
    rw [Bool.and_eq_true, decide_eq_true_eq] at hc
    obtain ⟨i1, i2⟩ := risB_in _ _ _ hc.1
    obtain ⟨u1, u2⟩ := unitsV_in hb
    rw [implUnits_eq hb k (by omega), Option.bind_some]
    unfold orderL
    by_cases h1 : cs.length = 1
    · have hr0 : 0 ≤ rd cs 0 ∧ rd cs 0 < (l.length : Int) := by
        have e : rd cs 0 = cs[0]'(by omega) := rd_nat cs 0 (by omega)
        rw [e]; exact i1 _ (List.getElem_mem _)
      obtain ⟨s1, s2⟩ := sizeV_in hb (rd cs 0) hr0.1 hr0.2
      have v1 := upV_in (sizeV w h l (rd cs 0)).1 8 (by omega) (by omega)
      have v2 := upV_in (sizeV w h l (rd cs 0)).2 8 (by omega) (by omega)
      have hn : impl_Frame_needed.f k p w h r l (rd cs 0) = some (upV (sizeV w h l (rd cs 0)).1 8, upV (sizeV w h l (rd cs 0)).2 8) := by
        unfold impl_Frame_needed.f
        rw [implSize_eq hb _ hr0.1 hr0.2 k (by omega), Option.bind_some, implUp_eq _ 8 (by omega) (by omega), Option.bind_some, implUp_eq _ 8 (by omega) (by omega)]; rfl
      rw [if_pos (by omega), if_pos (by omega), hn, Option.bind_some, if_pos h1, flat_len]
      have hm : 0 ≤ upV (sizeV w h l (rd cs 0)).1 8 * upV (sizeV w h l (rd cs 0)).2 8 := Int.mul_nonneg (by omega) (by omega)
      have hm2 : upV (sizeV w h l (rd cs 0)).1 8 * upV (sizeV w h l (rd cs 0)).2 8 ≤ 1024 * 1024 := Int.mul_le_mul (by omega) (by omega) (by omega) (by omega)
      rw [w64 (by simp only; omega) (by simp only; omega)]
      congr 1
      rw [Int.natCast_mul, Int.toNat_of_nonneg (by omega), Int.toNat_of_nonneg (by omega), Int.mul_comm]
    · rw [if_neg (by omega), if_neg h1, flat_len]
      have hm : 0 ≤ (unitsV w h l).1 * (unitsV w h l).2 := Int.mul_nonneg (by omega) (by omega)
      have hm2 : (unitsV w h l).1 * (unitsV w h l).2 ≤ 256 * 256 := Int.mul_le_mul (by omega) (by omega) (by omega) (by omega)
      rw [w64 (by omega) (by omega)]
      congr 1
      rw [Int.natCast_mul, Int.toNat_of_nonneg (by omega), Int.toNat_of_nonneg (by omega), Int.mul_comm]
  · rw [if_neg hbc, if_neg hbc]

def BytesL (l : List Int) : Prop := l.length ≤ 1048576 ∧ ∀ x ∈ l, 0 ≤ x ∧ x ≤ 255
theorem rd_byte {l : List Int} (h : BytesL l) (i : Int) (h0 : 0 ≤ i) (h1 : i < (l.length : Int)) : 0 ≤ rd l i ∧ rd l i ≤ 255 := by
  obtain ⟨n, rfl⟩ := Int.eq_ofNat_of_zero_le h0
  have hn : n < l.length := by omega
  rw [rd_nat l n hn]
  exact h.2 _ (List.getElem_mem hn)
def CurOk (a s b : Int) : Prop := 0 ≤ a ∧ a ≤ b ∧ b ≤ 1152921504606846976 ∧ 0 ≤ s ∧ s ≤ 65521
theorem tmodw {x y : Int} (h0 : 0 ≤ x) (hy : 0 < y) : 0 ≤ Int.tmod x y ∧ Int.tmod x y < y := by
  rw [Int.tmod_eq_emod_of_nonneg h0]
  exact ⟨Int.emod_nonneg _ (by omega), Int.emod_lt_of_pos _ hy⟩
theorem pick_ok {l : List Int} (hl : BytesL l) {a s b : Int} (n : Int) (hc : CurOk a s b) (hb : b + 2 ≤ 1152921504606846976) (hn : 1 ≤ n) : ∃ r a' s', spec_l01Cur_pick.f l a s n = some (r, a', s') ∧ 0 ≤ r ∧ r < n ∧ CurOk a' s' (b + 2) := by
  obtain ⟨h1, h2, h3, h4, h5⟩ := hc
  have hll := hl.1
  unfold spec_l01Cur_pick.f
  by_cases c1 : n < 2
  · exact ⟨0, a, s, by rw [if_pos c1], by omega, by omega, by omega, by omega, hb, h4, h5⟩
  rw [if_neg c1]
  by_cases c2 : a < (l.length : Int)
  · rw [if_pos c2, if_pos h1, w64 (x := a + 1) (by omega) (by omega)]
    have r1 := rd_byte hl a h1 c2
    have t1 := tmodw (x := rd l a) (y := n) (by omega) (by omega)
    by_cases c3 : n > 256
    · rw [if_pos c3]
      by_cases c4 : a + 1 < (l.length : Int)
      · have r2 := rd_byte hl (a + 1) (by omega) c4
        have t2 := tmodw (x := 256 * rd l a + rd l (a + 1)) (y := n) (by omega) (by omega)
        rw [if_pos c4, if_pos (by omega), if_neg (by omega)]
        refine ⟨_, _, _, rfl, ?_, ?_, ?_⟩
        · rw [w64 (x := rd l a) (by omega) (by omega), w64 (x := 256 * rd l a) (by omega) (by omega), w64 (x := rd l (a + 1)) (by omega) (by omega), w64 (by omega) (by omega)]; exact t2.1
        · rw [w64 (x := rd l a) (by omega) (by omega), w64 (x := 256 * rd l a) (by omega) (by omega), w64 (x := rd l (a + 1)) (by omega) (by omega), w64 (by omega) (by omega)]; exact t2.2
        · rw [w64 (x := a + 1 + 1) (by omega) (by omega)]; exact ⟨by omega, by omega, hb, h4, h5⟩
      · rw [if_neg c4, if_neg (by omega), w64 (x := rd l a) (by omega) (by omega)]
        exact ⟨_, _, _, rfl, t1.1, t1.2, by omega, by omega, hb, h4, h5⟩
    · rw [if_neg c3, if_neg (by omega), w64 (x := rd l a) (by omega) (by omega)]
      exact ⟨_, _, _, rfl, t1.1, t1.2, by omega, by omega, hb, h4, h5⟩
  · rw [if_neg c2, w64 (x := s * 1103) (by omega) (by omega), w64 (x := s * 1103 + 12345) (by omega) (by omega), w64 (x := a + 1) (by omega) (by omega)]
    have t3 := tmodw (x := s * 1103 + 12345) (y := 65521) (by omega) (by omega)
    rw [tdw (x := Int.tmod (s * 1103 + 12345) 65521) (by omega) (by omega) (by omega)]
    have d3 := div_bd (x := Int.tmod (s * 1103 + 12345) 65521) (y := 3) (by omega) (by omega)
    by_cases c5 : (l.length : Int) > 0
    · have t4 := tmodw (x := a) (y := (l.length : Int)) h1 c5
      have r4 := rd_byte hl (Int.tmod a (l.length : Int)) t4.1 t4.2
      rw [if_pos c5, if_neg (by omega), if_pos t4.1, if_pos t4.2, if_neg (by omega), w64 (x := rd l (Int.tmod a (l.length : Int))) (by omega) (by omega), w64 (x := Int.tmod (s * 1103 + 12345) 65521 / 3 + rd l (Int.tmod a (l.length : Int))) (by omega) (by omega)]
      have t5 := tmodw (x := Int.tmod (s * 1103 + 12345) 65521 / 3 + rd l (Int.tmod a (l.length : Int))) (y := n) (by omega) (by omega)
      exact ⟨_, _, _, rfl, t5.1, t5.2, by omega, by omega, hb, t3.1, by omega⟩
    · rw [if_neg c5, if_neg (by omega)]
      have t5 := tmodw (x := Int.tmod (s * 1103 + 12345) 65521 / 3) (y := n) (by omega) (by omega)
      exact ⟨_, _, _, rfl, t5.1, t5.2, by omega, by omega, hb, t3.1, by omega⟩
theorem open_ok {l : List Int} (hl : BytesL l) : ∃ s, spec_l01Open.f l = some (l, 0, s) ∧ CurOk 0 s 0 := by
  refine ⟨13 + ((l.length : Int) % 1000), rfl, by omega, by omega, by omega, by omega, by omega⟩

theorem once_ok {l : List Int} (hl : BytesL l) {a s b : Int} (n : Int) (hc : CurOk a s b) (hb : b + 2 ≤ 1152921504606846976) (hn : 1 ≤ n) : ∃ r a' s', spec_l01Cur_once.f l a s n = some (r, a', s') ∧ CurOk a' s' (b + 2) := by
  obtain ⟨r, a', s', h, _, _, h'⟩ := pick_ok hl n hc hb hn
  unfold spec_l01Cur_once.f
  rw [h]
  exact ⟨_, _, _, rfl, h'⟩

def inR (lo hi : Int) (l : List Int) : Bool := l.all fun x => decide (lo ≤ x ∧ x ≤ hi)
theorem inR_nil (lo hi : Int) : inR lo hi [] = true := rfl
theorem inR_cons (lo hi x : Int) (l : List Int) : inR lo hi (x :: l) = (decide (lo ≤ x ∧ x ≤ hi) && inR lo hi l) := rfl
theorem inR_at {lo hi : Int} {l : List Int} (h : inR lo hi l = true) (i : Nat) (hi' : i < l.length) : lo ≤ l[i] ∧ l[i] ≤ hi := by
  unfold inR at h; rw [List.all_eq_true] at h; simpa using h l[i] (List.getElem_mem hi')

theorem rd_getD (l : List Int) (i : Nat) : rd l (i : Int) = l.getD i 0 := by simp [rd]
theorem push_loop {α β : Type} (F : Nat → List α → Int → Option β) (g : Nat → α) (n : Nat) (res : β)
    (hstep : ∀ (k i : Nat) (a : List α), i < n → a.length = i → F (k + 1) a (i : Int) = F k (a ++ [g i]) ((i + 1 : Nat) : Int))
    (hend : ∀ k : Nat, F (k + 1) ((List.range n).map g) (n : Int) = some res) : ∀ k : Nat, n < k → F k [] 0 = some res := by
  have main : ∀ (d k i : Nat), i + d = n → d < k → F k ((List.range i).map g) (i : Int) = some res := by
    intro d
    induction d with
    | zero =>
      intro k i h1 hk
      obtain ⟨k, rfl⟩ : ∃ m, k = m + 1 := ⟨k - 1, by omega⟩
      obtain rfl : i = n := by omega
      exact hend k
    | succ d ih =>
      intro k i h1 hk
      obtain ⟨k, rfl⟩ : ∃ m, k = m + 1 := ⟨k - 1, by omega⟩
      rw [hstep k i _ (by omega) (by simp)]
      have e : (List.range (i + 1)).map g = (List.range i).map g ++ [g i] := by rw [List.range_succ, List.map_append]; rfl
      rw [← e]
      exact ih k (i + 1) (by omega) (by omega)
  intro k hk
  exact main n k 0 (by omega) hk
theorem state_loop {σ β : Type} (F : Nat → σ → Int → Option β) (s : Nat → σ) (n : Nat) (res : β)
    (hstep : ∀ (k i : Nat), i < n → F (k + 1) (s i) (i : Int) = F k (s (i + 1)) ((i + 1 : Nat) : Int))
    (hend : ∀ k : Nat, F (k + 1) (s n) (n : Int) = some res) : ∀ k : Nat, n < k → F k (s 0) 0 = some res := by
  have main : ∀ (d k i : Nat), i + d = n → d < k → F k (s i) (i : Int) = some res := by
    intro d
    induction d with
    | zero =>
      intro k i h1 hk
      obtain ⟨k, rfl⟩ : ∃ m, k = m + 1 := ⟨k - 1, by omega⟩
      obtain rfl : i = n := by omega
      exact hend k
    | succ d ih =>
      intro k i h1 hk
      obtain ⟨k, rfl⟩ : ∃ m, k = m + 1 := ⟨k - 1, by omega⟩
      rw [hstep k i (by omega)]
      exact ih k (i + 1) (by omega) (by omega)
  intro k hk
  exact main n k 0 (by omega) hk
theorem inR_getD {lo hi : Int} {l : List Int} (h : inR lo hi l = true) (i : Nat) (h' : i < l.length) : lo ≤ l.getD i 0 ∧ l.getD i 0 ≤ hi := by
  have := inR_at h i h'
  simpa [List.getD_eq_getElem?_getD, h'] using this

def oddsL : List Int := [(-1), 0, 1, 2, 255, 256, 65535, 9223372036854775807, (-9223372036854775808), 17, 8, 12]
theorem odd_ok {l : List Int} (hl : BytesL l) {a s b : Int} (hc : CurOk a s b) (hb : b + 2 ≤ 1152921504606846976) : ∃ r a' s', spec_l01Cur_odd.f l a s = some (r, a', s') ∧ (-9223372036854775808 ≤ r ∧ r ≤ 9223372036854775807) ∧ CurOk a' s' (b + 2) := by
  obtain ⟨r, a', s', h, h0, h1, h'⟩ := pick_ok hl 12 hc hb (by omega)
  unfold spec_l01Cur_odd.f
  rw [Option.bind_some, h, Option.bind_some]
  show ∃ r0 a0 s0, (if 0 ≤ r then if r < (oddsL.length : Int) then some (rd oddsL r, a', s') else none else none) = _ ∧ _
  rw [if_pos h0, if_pos (show r < (oddsL.length : Int) by simp [oddsL]; omega)]
  refine ⟨_, _, _, rfl, ?_, h'⟩
  obtain ⟨n, rfl⟩ := Int.eq_ofNat_of_zero_le h0
  have key : ∀ j : Fin 12, -9223372036854775808 ≤ oddsL.getD j.val 0 ∧ oddsL.getD j.val 0 ≤ 9223372036854775807 := by decide +kernel
  rw [rd_getD]
  exact key ⟨n, by omega⟩

theorem drawFrame_loop {l : List Int} (hl : BytesL l) (p w h r : Int) : ∀ (d : Nat) (all a s b : Int) (c : List S66), CurOk a s b → b + 20 * (d : Int) ≤ 1152921504606846976 → c.length + d ≤ 4 → ∃ c' a' s', (∀ k, d < k → spec_l03DrawFrame.l0 k all (d : Int) l a s p w h r c = some (p, w, h, r, c', a', s')) ∧ c'.length = c.length + d ∧ CurOk a' s' (b + 20 * (d : Int)) := by
  intro d
  induction d with
  | zero =>
    intro all a s b c hc hb hl4
    refine ⟨c, a, s, fun k hk => ?_, by omega, by simpa using hc⟩
    obtain ⟨k, rfl⟩ : ∃ m, k = m + 1 := ⟨k - 1, by omega⟩
    rw [spec_l03DrawFrame.l0, if_neg (by omega)]
  | succ d ih =>
    intro all a s b c hc hb hl4
    obtain ⟨r1, a1, s1, e1, _, _, c1⟩ := pick_ok hl 2 hc (by omega) (by omega)
    obtain ⟨r2, a2, s2, e2, _, _, c2⟩ := pick_ok hl 2 c1 (by omega) (by omega)
    obtain ⟨r3, a3, s3, e3, _, _, c3⟩ := pick_ok hl 4 c2 (by omega) (by omega)
    obtain ⟨o, a4, s4, e4, c4⟩ := once_ok hl 12 c3 (by omega) (by omega)
    have hx : wrap64 (((d + 1 : Nat) : Int) - 1) = (d : Int) := by rw [w64 (by omega) (by omega)]; omega
    have fin : ∀ (all' a' s' b' : Int) (x : S66), CurOk a' s' b' → b' ≤ b + 20 → (∀ k, spec_l03DrawFrame.l0 (k + 1) all ((d + 1 : Nat) : Int) l a s p w h r c = spec_l03DrawFrame.l0 k all' (d : Int) l a' s' p w h r (c ++ [x])) → ∃ c' a' s', (∀ k, d + 1 < k → spec_l03DrawFrame.l0 k all ((d + 1 : Nat) : Int) l a s p w h r c = some (p, w, h, r, c', a', s')) ∧ c'.length = c.length + (d + 1) ∧ CurOk a' s' (b + 20 * ((d + 1 : Nat) : Int)) := by
      intro all' a' s' b' x ⟨q1, q2, q3, q4, q5⟩ hb' hs
      obtain ⟨c', a'', s'', e, hl', q⟩ := ih all' a' s' (b + 20) (c ++ [x]) ⟨q1, by omega, by omega, q4, q5⟩ (by omega) (by simp; omega)
      refine ⟨c', a'', s'', fun k hk => ?_, by rw [hl']; simp; omega, ?_⟩
      · obtain ⟨k, rfl⟩ : ∃ m, k = m + 1 := ⟨k - 1, by omega⟩
        rw [hs]; exact e k (by omega)
      · rw [show b + 20 * ((d + 1 : Nat) : Int) = b + 20 + 20 * (d : Int) by omega]; exact q
    by_cases ho : o = true
    · obtain ⟨r5, a5, s5, e5, _, _, c5⟩ := pick_ok hl 4 c4 (by omega) (by omega)
      by_cases hg : wrap64 (all + wrap64 (wrap64 (1 + r5) * wrap64 (1 + r2))) > 10
      · refine fin (wrap64 (all + (1 * 1))) a5 s5 _ ⟨wrap64 (10 * ((d + 1 : Nat) : Int)), 1, 1, r3⟩ c5 (by omega) fun k => ?_
        rw [spec_l03DrawFrame.l0, if_pos (by omega), e1, Option.bind_some, e2, Option.bind_some, e3, Option.bind_some, e4, Option.bind_some, if_pos ho, e5, Option.bind_some, if_pos hg, if_pos (by omega), hx]
      · refine fin (wrap64 (all + wrap64 (wrap64 (1 + r5) * wrap64 (1 + r2)))) a5 s5 _ ⟨wrap64 (10 * ((d + 1 : Nat) : Int)), wrap64 (1 + r5), wrap64 (1 + r2), r3⟩ c5 (by omega) fun k => ?_
        rw [spec_l03DrawFrame.l0, if_pos (by omega), e1, Option.bind_some, e2, Option.bind_some, e3, Option.bind_some, e4, Option.bind_some, if_pos ho, e5, Option.bind_some, if_neg hg, if_pos (by omega), hx]
    · by_cases hg : wrap64 (all + wrap64 (wrap64 (1 + r1) * wrap64 (1 + r2))) > 10
      · refine fin (wrap64 (all + (1 * 1))) a4 s4 _ ⟨wrap64 (10 * ((d + 1 : Nat) : Int)), 1, 1, r3⟩ c4 (by omega) fun k => ?_
        rw [spec_l03DrawFrame.l0, if_pos (by omega), e1, Option.bind_some, e2, Option.bind_some, e3, Option.bind_some, e4, Option.bind_some, if_neg ho, if_pos hg, if_pos (by omega), hx]
      · refine fin (wrap64 (all + wrap64 (wrap64 (1 + r1) * wrap64 (1 + r2)))) a4 s4 _ ⟨wrap64 (10 * ((d + 1 : Nat) : Int)), wrap64 (1 + r1), wrap64 (1 + r2), r3⟩ c4 (by omega) fun k => ?_
        rw [spec_l03DrawFrame.l0, if_pos (by omega), e1, Option.bind_some, e2, Option.bind_some, e3, Option.bind_some, e4, Option.bind_some, if_neg ho, if_neg hg, if_pos (by omega), hx]
theorem drawFrame_ok {l : List Int} (hl : BytesL l) {a s b : Int} (hc : CurOk a s b) (hb : b + 100 ≤ 1152921504606846976) : ∃ p w h r c a' s', (∀ k, 10 ≤ k → spec_l03DrawFrame.f k l a s = some (p, w, h, r, c, a', s')) ∧ 1 ≤ c.length ∧ c.length ≤ 4 ∧ CurOk a' s' (b + 90) := by
  obtain ⟨r1, a1, s1, e1, p1, q1, c1⟩ := pick_ok hl 3 hc (by omega) (by omega)
  obtain ⟨r2, a2, s2, e2, p2, q2, c2⟩ := pick_ok hl 20 c1 (by omega) (by omega)
  obtain ⟨r3, a3, s3, e3, p3, q3, c3⟩ := pick_ok hl 20 c2 (by omega) (by omega)
  obtain ⟨r4, a4, s4, e4, p4, q4, c4⟩ := pick_ok hl 5 c3 (by omega) (by omega)
  obtain ⟨r5, a5, s5, e5, p5, q5, c5⟩ := pick_ok hl 4 c4 (by omega) (by omega)
  obtain ⟨d, hd⟩ : ∃ d : Nat, 1 + r5 = (d : Int) := ⟨(1 + r5).toNat, by omega⟩
  obtain ⟨c', a', s', e, hn, ⟨g1, g2, g3, g4, g5⟩⟩ := drawFrame_loop hl (rd [8, 8, 12] r1) (wrap64 (1 + r2)) (wrap64 (1 + r3)) (rd [0, 0, 1, 2, 5] r4) d 0 a5 s5 (b + 10) [] ⟨c5.1, by have := c5.2.1; omega, by omega, c5.2.2.2⟩ (by omega) (by simp; omega)
  refine ⟨rd [8, 8, 12] r1, wrap64 (1 + r2), wrap64 (1 + r3), rd [0, 0, 1, 2, 5] r4, c', a', s', fun k hk => ?_, by simp at hn; omega, by simp at hn; omega, ⟨g1, by omega, by omega, g4, g5⟩⟩
  unfold spec_l03DrawFrame.f
  rw [Option.bind_some, e1, Option.bind_some, if_pos p1, if_pos (by simpa using q1), e2, Option.bind_some, e3, Option.bind_some, Option.bind_some, e4, Option.bind_some, if_pos p4, if_pos (by simpa using q4), e5, Option.bind_some, w64 (x := 1 + r5) (by omega) (by omega), hd]
  exact e k (by omega)

theorem rest_ok {l : List Int} (hl : BytesL l) (c : List S66) (h4 : c.length ≤ 4) (t1 p w h r x0 x1 x2 x3 : Int) {a s b : Int} (hc : CurOk a s b) (hb : b + 2 ≤ 1152921504606846976) : ∃ p' w' h' r' c' a' s', spec_l03DrawAny.rest l c t1 p w h r x0 x1 x2 x3 a s = some (p', w', h', r', c', a', s') ∧ c'.length ≤ 5 ∧ CurOk a' s' (b + 2) := by
  obtain ⟨o, a1, s1, e1, c1⟩ := once_ok hl 5 hc hb (by omega)
  unfold spec_l03DrawAny.rest
  rw [Option.bind_some, e1, Option.bind_some]
  by_cases ho : o = true
  · rw [if_pos ho, if_pos (by simp; omega)]
    exact ⟨_, _, _, _, _, _, _, rfl, by simp; omega, c1⟩
  · rw [if_neg ho]
    exact ⟨_, _, _, _, _, _, _, rfl, by simp; omega, c1⟩
theorem drawAnyF_ok {l : List Int} (hl : BytesL l) (m : Int) (hm : 1 ≤ m) {a s b : Int} (hc : CurOk a s b) (hb : b + 200 ≤ 1152921504606846976) : ∃ p w h r c a' s', (∀ k, 10 ≤ k → spec_l03DrawAny.f k l a s m = some (p, w, h, r, c, a', s')) ∧ c.length ≤ 5 ∧ CurOk a' s' (b + 150) := by
  obtain ⟨p, w, h, r, c, a0, s0, e, hc1, hc4, c0⟩ := drawFrame_ok hl hc (by omega)
  suffices H : ∃ p w h r c a' s', spec_l03DrawAny.f 10 l a s m = some (p, w, h, r, c, a', s') ∧ c.length ≤ 5 ∧ CurOk a' s' (b + 150) by
    obtain ⟨p, w, h, r, c, a', s', e', h5, c'⟩ := H
    refine ⟨p, w, h, r, c, a', s', fun k hk => ?_, h5, c'⟩
    rw [← e']; unfold spec_l03DrawAny.f; rw [e k hk, e 10 (by omega)]
  have up : ∀ a0 s0 b0 : Int, CurOk a0 s0 b0 → b0 ≤ b + 150 → CurOk a0 s0 (b + 150) := fun a0 s0 b0 ⟨h1, h2, h3, h4, h5⟩ h => ⟨h1, by omega, by omega, h4, h5⟩
  obtain ⟨o, a1, s1, e1, c1⟩ := once_ok hl m c0 (by omega) hm
  unfold spec_l03DrawAny.f
  rw [e 10 (by omega), Option.bind_some, e1, Option.bind_some]
  by_cases ho : ¬ o = true
  · rw [if_neg ho]; exact ⟨p, w, h, r, c, a1, s1, rfl, by omega, up _ _ _ c1 (by omega)⟩
  rw [if_pos (Decidable.not_not.1 ho)]
  obtain ⟨i, a2, s2, e2, p2, q2, c2⟩ := pick_ok hl (c.length : Int) c1 (by omega) (by omega)
  obtain ⟨j, a3, s3, e3, p3, q3, c3⟩ := pick_ok hl 9 c2 (by omega) (by omega)
  rw [e2, Option.bind_some, if_pos p2, if_pos q2, e3, Option.bind_some]
  by_cases h0 : j = 0
  · obtain ⟨z, a4, s4, e4, _, c4⟩ := odd_ok hl c3 (by omega)
    rw [if_pos h0, e4, Option.bind_some]
    obtain ⟨p', w', h', r', c', a', s', e', h5, cc⟩ := rest_ok hl c hc4 i z w h r (rd_T66 c i).f0 (rd_T66 c i).f1 (rd_T66 c i).f2 (rd_T66 c i).f3 c4 (by omega)
    exact ⟨p', w', h', r', c', a', s', e', h5, up _ _ _ cc (by omega)⟩
  rw [if_neg h0]
  by_cases h1 : j = 1
  · obtain ⟨z, a4, s4, e4, _, c4⟩ := odd_ok hl c3 (by omega)
    obtain ⟨n, a5, s5, e5, p5, q5, c5⟩ := pick_ok hl 4 c4 (by omega) (by omega)
    rw [if_pos h1, e4, Option.bind_some, Option.bind_some, e5, Option.bind_some, if_pos p5, if_pos (by simpa using q5)]
    obtain ⟨p', w', h', r', c', a', s', e', h5, cc⟩ := rest_ok hl c hc4 i p (rd [0, 256, 257, z] n) h r (rd_T66 c i).f0 (rd_T66 c i).f1 (rd_T66 c i).f2 (rd_T66 c i).f3 c5 (by omega)
    exact ⟨p', w', h', r', c', a', s', e', h5, up _ _ _ cc (by omega)⟩
  rw [if_neg h1]
  by_cases h2 : j = 2
  · obtain ⟨z, a4, s4, e4, _, c4⟩ := odd_ok hl c3 (by omega)
    obtain ⟨n, a5, s5, e5, p5, q5, c5⟩ := pick_ok hl 4 c4 (by omega) (by omega)
    rw [if_pos h2, e4, Option.bind_some, Option.bind_some, e5, Option.bind_some, if_pos p5, if_pos (by simpa using q5)]
    obtain ⟨p', w', h', r', c', a', s', e', h5, cc⟩ := rest_ok hl c hc4 i p w (rd [0, 256, 257, z] n) r (rd_T66 c i).f0 (rd_T66 c i).f1 (rd_T66 c i).f2 (rd_T66 c i).f3 c5 (by omega)
    exact ⟨p', w', h', r', c', a', s', e', h5, up _ _ _ cc (by omega)⟩
  rw [if_neg h2]
  by_cases h3 : j = 3
  · obtain ⟨z, a4, s4, e4, _, c4⟩ := odd_ok hl c3 (by omega)
    rw [if_pos h3, e4, Option.bind_some]
    obtain ⟨p', w', h', r', c', a', s', e', h5, cc⟩ := rest_ok hl c hc4 i p w h z (rd_T66 c i).f0 (rd_T66 c i).f1 (rd_T66 c i).f2 (rd_T66 c i).f3 c4 (by omega)
    exact ⟨p', w', h', r', c', a', s', e', h5, up _ _ _ cc (by omega)⟩
  rw [if_neg h3]
  by_cases h4 : j = 4
  · obtain ⟨z, a4, s4, e4, _, c4⟩ := odd_ok hl c3 (by omega)
    rw [if_pos h4, e4, Option.bind_some]
    obtain ⟨p', w', h', r', c', a', s', e', h5, cc⟩ := rest_ok hl c hc4 i p w h r z (rd_T66 c i).f1 (rd_T66 c i).f2 (rd_T66 c i).f3 c4 (by omega)
    exact ⟨p', w', h', r', c', a', s', e', h5, up _ _ _ cc (by omega)⟩
  rw [if_neg h4]
  by_cases h5 : j = 5
  · obtain ⟨z, a4, s4, e4, _, c4⟩ := odd_ok hl c3 (by omega)
    rw [if_pos h5, e4, Option.bind_some]
    obtain ⟨p', w', h', r', c', a', s', e', h5, cc⟩ := rest_ok hl c hc4 i p w h r (rd_T66 c i).f0 z (rd_T66 c i).f2 (rd_T66 c i).f3 c4 (by omega)
    exact ⟨p', w', h', r', c', a', s', e', h5, up _ _ _ cc (by omega)⟩
  rw [if_neg h5]
  by_cases h6 : j = 6
  · obtain ⟨n, a5, s5, e5, p5, q5, c5⟩ := pick_ok hl 3 c3 (by omega) (by omega)
    rw [if_pos h6, Option.bind_some, e5, Option.bind_some, if_pos p5, if_pos (by simpa using q5)]
    obtain ⟨p', w', h', r', c', a', s', e', h5, cc⟩ := rest_ok hl c hc4 i p w h r (rd_T66 c i).f0 (rd_T66 c i).f1 (rd [0, 4, 5] n) (rd_T66 c i).f3 c5 (by omega)
    exact ⟨p', w', h', r', c', a', s', e', h5, up _ _ _ cc (by omega)⟩
  rw [if_neg h6]
  by_cases h7 : j = 7
  · obtain ⟨n, a5, s5, e5, p5, q5, c5⟩ := pick_ok hl 3 c3 (by omega) (by omega)
    rw [if_pos h7, Option.bind_some, e5, Option.bind_some, if_pos p5, if_pos (by simpa using q5)]
    obtain ⟨p', w', h', r', c', a', s', e', h5, cc⟩ := rest_ok hl c hc4 i p w h r (rd_T66 c i).f0 (rd_T66 c i).f1 (rd_T66 c i).f2 (rd [-1, 3, 4] n) c5 (by omega)
    exact ⟨p', w', h', r', c', a', s', e', h5, up _ _ _ cc (by omega)⟩
  rw [if_neg h7]
  obtain ⟨n, a5, s5, e5, p5, q5, c5⟩ := pick_ok hl 2 c3 (by omega) (by omega)
  rw [e5, Option.bind_some]
  obtain ⟨p', w', h', r', c', a', s', e', h5, cc⟩ := rest_ok hl c hc4 i p 128 (wrap64 (128 + n)) r (rd_T66 c i).f0 (rd_T66 c i).f1 (rd_T66 c i).f2 (rd_T66 c i).f3 c5 (by omega)
  exact ⟨p', w', h', r', c', a', s', e', h5, up _ _ _ cc (by omega)⟩

def Ends (f : Nat → Option Bool) : Prop := ∃ K : Nat, ∀ k : Nat, K ≤ k → f k = some true
theorem Ends.step {f g : Nat → Option Bool} (N : Nat) (h : ∀ k : Nat, N ≤ k → f (k + 1) = g k) (e : Ends g) : Ends f := by
  obtain ⟨K, e⟩ := e
  refine ⟨max N K + 1, fun k hk => ?_⟩
  obtain ⟨k, rfl⟩ : ∃ m, k = m + 1 := ⟨k - 1, by omega⟩
  rw [h k (by omega), e k (by omega)]
theorem rdL6_nat (s : List (List Bool)) (c : Nat) : rd_L6 s (c : Int) = s.getD c [] := by simp [rd_L6]
theorem rdB_nat (s : List Bool) (q : Nat) : rdOf false s (q : Int) = s.getD q false := by simp [rdOf]
def Inv (w h : Int) (l : List S66) (s : List (List Bool)) (pre : List S60) : Prop := s.length = l.length ∧ ∀ c : Nat, c < l.length → (s.getD c []).length = ((blocksV w h l c).1 * (blocksV w h l c).2).toNat ∧ ∀ q : Nat, (s.getD c []).getD q false = true ↔ ∃ p ∈ pre, p.f0 = (c : Int) ∧ p.f1 * (blocksV w h l c).1 + p.f2 = (q : Int)
theorem Inv.step {w h : Int} {l : List S66} {s : List (List Bool)} {pre : List S60} (H : Inv w h l s pre) (p : S60) (c0 q0 : Nat) (hc : p.f0 = (c0 : Int)) (hl : c0 < l.length) (hq : p.f1 * (blocksV w h l c0).1 + p.f2 = (q0 : Int)) (hq1 : q0 < (s.getD c0 []).length) : Inv w h l (s.set c0 ((s.getD c0 []).set q0 true)) (pre ++ [p]) := by
  obtain ⟨H1, H2⟩ := H
  refine ⟨by simpa using H1, fun c hcl => ?_⟩
  obtain ⟨H3, H4⟩ := H2 c hcl
  by_cases e : c0 = c
  · subst e
    have e1 : (s.set c0 ((s.getD c0 []).set q0 true)).getD c0 [] = (s.getD c0 []).set q0 true := by
      rw [List.getD_eq_getElem?_getD, List.getElem?_set, if_pos rfl, if_pos (by omega)]; rfl
    rw [e1]
    refine ⟨by simpa using H3, fun q => ?_⟩
    rw [List.getD_eq_getElem?_getD, List.getElem?_set]
    by_cases e2 : q0 = q
    · subst e2
      rw [if_pos rfl, if_pos hq1]
      exact ⟨fun _ => ⟨p, by simp, hc, hq⟩, fun _ => rfl⟩
    · rw [if_neg e2, ← List.getD_eq_getElem?_getD, H4]
      constructor
      · rintro ⟨x, hx, a, b⟩; exact ⟨x, by simp [hx], a, b⟩
      · rintro ⟨x, hx, a, b⟩
        rcases List.mem_append.1 hx with hx | hx
        · exact ⟨x, hx, a, b⟩
        · simp only [List.mem_singleton] at hx
          subst hx
          omega
  · have e1 : (s.set c0 ((s.getD c0 []).set q0 true)).getD c [] = s.getD c [] := by
      rw [List.getD_eq_getElem?_getD, List.getElem?_set, if_neg e, ← List.getD_eq_getElem?_getD]
    rw [e1]
    refine ⟨H3, fun q => ?_⟩
    rw [H4]
    constructor
    · rintro ⟨x, hx, a, b⟩; exact ⟨x, by simp [hx], a, b⟩
    · rintro ⟨x, hx, a, b⟩
      rcases List.mem_append.1 hx with hx | hx
      · exact ⟨x, hx, a, b⟩
      · simp only [List.mem_singleton] at hx
        subst hx
        omega
section
variable (p w h r : Int) (l : List S66) (hb : frameB p w h r l = true) (cs : List Int) (hcs : ∀ c ∈ cs, 0 ≤ c ∧ c < (l.length : Int)) (hc0 : 0 < cs.length) (hc4 : cs.length ≤ 4) (hl4 : l.length ≤ 4)
include hb in
theorem blocksV_in (c : Int) (h0 : 0 ≤ c) (h1 : c < (l.length : Int)) : (1 ≤ (blocksV w h l c).1 ∧ (blocksV w h l c).1 ≤ 1024) ∧ (1 ≤ (blocksV w h l c).2 ∧ (blocksV w h l c).2 ≤ 1024) := by
  obtain ⟨_, g1, g2, _⟩ := compOk_iff.1 (rdC_ok (frameB_ok hb) c h0 h1)
  obtain ⟨u1, u2⟩ := unitsV_in hb
  exact ⟨mul1024 u1 g1, mul1024 u2 g2⟩
theorem idx_in {a b x y : Int} (ha : 1 ≤ a ∧ a ≤ 1024) (hb : 1 ≤ b ∧ b ≤ 1024) (hy : 0 ≤ y ∧ y < b) (hx : 0 ≤ x ∧ x < a) : 0 ≤ y * a ∧ y * a ≤ 1048576 ∧ 0 ≤ y * a + x ∧ y * a + x < a * b := by
  have h1 := Int.mul_nonneg hy.1 (show (0 : Int) ≤ a by omega)
  have h2 := Int.mul_le_mul_of_nonneg_right (show y + 1 ≤ b by omega) (show (0 : Int) ≤ a by omega)
  have h3 : b * a ≤ 1024 * 1024 := Int.mul_le_mul hb.2 ha.2 (by omega) (by omega)
  rw [Int.add_mul, Int.one_mul] at h2
  rw [Int.mul_comm a b]
  omega
include hb hcs in
theorem places_l4 (s : List (List Bool)) (hs : s.length = l.length) (i : Nat) (hi : i < cs.length) (y : Nat) (hlen : ((s.getD (cs[i]).toNat []).length : Int) = (blocksV w h l (cs[i])).1 * (blocksV w h l (cs[i])).2) (hy : (y : Int) < upV (sizeV w h l (cs[i])).2 8)
    (hcov : ∀ x : Nat, (x : Int) < upV (sizeV w h l (cs[i])).1 8 → rdOf false (rd_L6 s (cs[i])) ((y : Int) * (blocksV w h l (cs[i])).1 + (x : Int)) = true)
    (hn : Ends fun k => laws_FnPlaces.l3 k cs s (i : Int) (sizeV w h l (cs[i])).1 (sizeV w h l (cs[i])).2 (blocksV w h l (cs[i])).1 ((8 * (y + 1) : Nat) : Int) p w h r l) :
    ∀ (d x : Nat), (x : Int) + d = upV (sizeV w h l (cs[i])).1 8 → Ends fun k => laws_FnPlaces.l4 k cs s (i : Int) (sizeV w h l (cs[i])).1 (sizeV w h l (cs[i])).2 (blocksV w h l (cs[i])).1 ((8 * y : Nat) : Int) ((8 * x : Nat) : Int) p w h r l := by
  obtain ⟨a, b⟩ := hcs _ (List.getElem_mem hi)
  obtain ⟨s1, s2⟩ := sizeV_in hb _ a b
  obtain ⟨b1, b2⟩ := blocksV_in p w h r l hb _ a b
  obtain ⟨n1, n2⟩ := need_in hb _ a b
  have e8 : ∀ n : Nat, n ≤ 100000 → wrap64 (Int.tdiv ((8 * n : Nat) : Int) 8) = (n : Int) := by
    intro n hn
    rw [tdw (by omega) (by omega) (by omega)]; omega
  intro d
  induction d with
  | zero =>
    intro x hx
    have := (lt_upV (a := (sizeV w h l (cs[i])).1) (b := 8) (q := (x : Int)) (by omega))
    refine Ends.step 0 (fun k _ => ?_) hn
    rw [laws_FnPlaces.l4, if_neg (by omega), w64 (by omega) (by omega)]
    congr 1
  | succ d ih =>
    intro x hx
    have hlt := (lt_upV (a := (sizeV w h l (cs[i])).1) (b := 8) (q := (x : Int)) (by omega)).1 (by omega)
    obtain ⟨i1, i2, i3, i4⟩ := idx_in b1 b2 (y := (y : Int)) (x := (x : Int)) (by omega) (by omega)
    have hL : rd_L6 s (cs[i]) = s.getD (cs[i]).toNat [] := by
      have := rdL6_nat s (cs[i]).toNat
      rwa [Int.toNat_of_nonneg a] at this
    refine Ends.step 0 (fun k _ => ?_) (ih (x + 1) (by omega))
    rw [laws_FnPlaces.l4, if_pos (by omega), if_pos (by omega), if_pos (by omega), rd_nat cs i hi, if_pos a, if_pos (by omega), e8 y (by omega), e8 x (by omega), w64 (x := (y : Int) * _) (by omega) (by omega), w64 (x := (y : Int) * _ + (x : Int)) (by omega) (by omega), if_pos i3, if_pos (by rw [hL, hlen]; exact i4), if_pos (hcov x (by omega)), w64 (by omega) (by omega)]
    congr 1
include hb hcs hc4 in
theorem places_l3 (s : List (List Bool)) (hs : s.length = l.length) (i : Nat) (hi : i < cs.length) (hlen : ((s.getD (cs[i]).toNat []).length : Int) = (blocksV w h l (cs[i])).1 * (blocksV w h l (cs[i])).2)
    (hcov : ∀ y x : Nat, (y : Int) < upV (sizeV w h l (cs[i])).2 8 → (x : Int) < upV (sizeV w h l (cs[i])).1 8 → rdOf false (rd_L6 s (cs[i])) ((y : Int) * (blocksV w h l (cs[i])).1 + (x : Int)) = true)
    (hn : Ends fun k => laws_FnPlaces.l2 k cs s ((i + 1 : Nat) : Int) p w h r l) :
    ∀ (d y : Nat), (y : Int) + d = upV (sizeV w h l (cs[i])).2 8 → Ends fun k => laws_FnPlaces.l3 k cs s (i : Int) (sizeV w h l (cs[i])).1 (sizeV w h l (cs[i])).2 (blocksV w h l (cs[i])).1 ((8 * y : Nat) : Int) p w h r l := by
  obtain ⟨a, b⟩ := hcs _ (List.getElem_mem hi)
  obtain ⟨s1, s2⟩ := sizeV_in hb _ a b
  have v1 := upV_in (sizeV w h l (cs[i])).1 8 (by omega) (by omega)
  intro d
  induction d with
  | zero =>
    intro y hy
    have := (lt_upV (a := (sizeV w h l (cs[i])).2) (b := 8) (q := (y : Int)) (by omega))
    refine Ends.step 0 (fun k _ => ?_) hn
    rw [laws_FnPlaces.l3, if_neg (by omega), wsucc (by omega)]
  | succ d ih =>
    intro y hy
    have hlt := (lt_upV (a := (sizeV w h l (cs[i])).2) (b := 8) (q := (y : Int)) (by omega)).1 (by omega)
    refine Ends.step 0 (fun k _ => ?_) (places_l4 p w h r l hb cs hcs s hs i hi y hlen (by omega) (fun x hx => hcov y x (by omega) hx) (ih (y + 1) (by omega)) (upV (sizeV w h l (cs[i])).1 8).toNat 0 (by omega))
    rw [laws_FnPlaces.l3, if_pos (by omega)]
    rfl
include hb hcs hc0 hc4 hl4 in
theorem places_l2 (s : List (List Bool)) (hs : Inv w h l s (orderL w h l cs).flatten) : ∀ (d i : Nat), i + d = cs.length → Ends fun k => laws_FnPlaces.l2 k cs s (i : Int) p w h r l := by
  intro d
  induction d with
  | zero =>
    intro i hi
    refine Ends.step (g := fun _ => some true) 0 (fun k _ => ?_) ⟨0, fun _ _ => rfl⟩
    rw [laws_FnPlaces.l2, if_neg (by omega)]
  | succ d ih =>
    intro i hi
    have hil : i < cs.length := by omega
    obtain ⟨a, b⟩ := hcs _ (List.getElem_mem hil)
    obtain ⟨s1, s2⟩ := sizeV_in hb _ a b
    obtain ⟨b1, b2⟩ := blocksV_in p w h r l hb _ a b
    have v2 := upV_in (sizeV w h l (cs[i])).2 8 (by omega) (by omega)
    obtain ⟨H1, H2⟩ := hs
    obtain ⟨H3, H4⟩ := H2 (cs[i]).toNat (by omega)
    rw [Int.toNat_of_nonneg a] at H3 H4
    have hm : 0 ≤ (blocksV w h l (cs[i])).1 * (blocksV w h l (cs[i])).2 := Int.mul_nonneg (by omega) (by omega)
    have hci : compIn p w h r l (cs[i]) = true := compIn_iff.2 ⟨hb, a, b⟩
    refine Ends.step 100 (fun k hk => ?_) (places_l3 p w h r l hb cs hcs hc4 s H1 i hil (by rw [H3]; omega) ?_ (ih (i + 1) (by omega)) (upV (sizeV w h l (cs[i])).2 8).toNat 0 (by omega))
    · rw [laws_FnPlaces.l2, if_pos (by omega), if_pos (by omega), rd_nat cs i hil, implSizeOf_eq p w h r l (by omega) _ k hk, Option.bind_some, specBlocksOf_eq p w h r l (by omega) _ k hk, Option.bind_some, if_pos hci, if_pos hci]
      rfl
    · intro y x hy hx
      have hmem := order_cov hb hcs hc0 (List.getElem_mem hil) y x hy hx
      obtain ⟨n1, n2⟩ := need_in hb _ a b
      obtain ⟨i1, i2, i3, i4⟩ := idx_in b1 b2 (y := (y : Int)) (x := (x : Int)) (by omega) (by omega)
      have hL : rd_L6 s (cs[i]) = s.getD (cs[i]).toNat [] := by
        have := rdL6_nat s (cs[i]).toNat
        rwa [Int.toNat_of_nonneg a] at this
      have hq := rdB_nat (s.getD (cs[i]).toNat []) ((y : Int) * (blocksV w h l (cs[i])).1 + (x : Int)).toNat
      rw [Int.toNat_of_nonneg i3] at hq
      rw [hL, hq, H4]
      exact ⟨_, hmem, rfl, by rw [Int.toNat_of_nonneg i3]⟩
include hb hcs hc0 hc4 hl4 in
theorem places_l1 (O : List S60) (hO : O = (orderL w h l cs).flatten) (hn : O.Pairwise (· ≠ ·)) (hol : O.length ≤ 100000000) : ∀ (rest pre : List S60) (s : List (List Bool)), pre ++ rest = O → Inv w h l s pre → Ends fun k => laws_FnPlaces.l1 k cs O O s (pre.length : Int) p w h r l := by
  intro rest
  induction rest with
  | nil =>
    intro pre s hp hs
    rw [List.append_nil] at hp
    subst hp
    refine Ends.step 0 (fun k _ => ?_) (places_l2 p w h r l hb cs hcs hc0 hc4 hl4 s (by rw [← hO]; exact hs) cs.length 0 (by omega))
    rw [laws_FnPlaces.l1, if_neg (by omega)]
    rfl
  | cons q rest ih =>
    intro pre s hp hs
    have hlt : pre.length < O.length := by rw [← hp]; simp
    have hrd : rd_T60 O (pre.length : Int) = q := by
      rw [← hp]; simp [rd_T60]
    have hqm : q ∈ (orderL w h l cs).flatten := by rw [← hO, ← hp]; simp
    obtain ⟨m0, m1, m2⟩ := order_mem hb hcs hc0 hqm
    obtain ⟨a, b⟩ := hcs _ m0
    obtain ⟨b1, b2⟩ := blocksV_in p w h r l hb _ a b
    obtain ⟨i1, i2, i3, i4⟩ := idx_in b1 b2 m1 m2
    have hci : compIn p w h r l q.f0 = true := compIn_iff.2 ⟨hb, a, b⟩
    have hL : rd_L6 s q.f0 = s.getD q.f0.toNat [] := by
      have := rdL6_nat s q.f0.toNat
      rwa [Int.toNat_of_nonneg a] at this
    have hI := hs
    obtain ⟨H1, H2⟩ := hI
    obtain ⟨H3, H4⟩ := H2 q.f0.toNat (by omega)
    rw [Int.toNat_of_nonneg a] at H3 H4
    have hq := rdB_nat (s.getD q.f0.toNat []) (q.f1 * (blocksV w h l q.f0).1 + q.f2).toNat
    rw [Int.toNat_of_nonneg i3] at hq
    have hnot : ¬ (rdOf false (rd_L6 s q.f0) (q.f1 * (blocksV w h l q.f0).1 + q.f2) = true) := by
      rw [hL, hq, H4]
      rintro ⟨x, hx, e0, e1⟩
      rw [Int.toNat_of_nonneg i3] at e1
      have hxm : x ∈ (orderL w h l cs).flatten := by rw [← hO, ← hp]; simp [hx]
      obtain ⟨k0, k1, k2⟩ := order_mem hb hcs hc0 hxm
      rw [e0] at k1 k2
      obtain ⟨f1, f2⟩ := idx_inj k2 m2 e1
      have hpw : (pre ++ q :: rest).Pairwise (· ≠ ·) := by rw [hp]; exact hn
      have := (List.pairwise_append.1 hpw).2.2 x hx q (by simp)
      apply this
      cases x; cases q; simp only [S60.mk.injEq] at *; exact ⟨e0, f1, f2⟩
    have hst := hs.step q q.f0.toNat (q.f1 * (blocksV w h l q.f0).1 + q.f2).toNat (by omega) (by omega) (by rw [Int.toNat_of_nonneg a, Int.toNat_of_nonneg i3]) (by rw [H3]; omega)
    refine Ends.step 100 (fun k hk => ?_) (ih (pre ++ [q]) _ (by rw [← hp]; simp) hst)
    rw [laws_FnPlaces.l1, if_pos (by omega), if_pos (by omega), if_pos (by omega), hrd, if_neg (by simp), specBlocksOf_eq p w h r l (by omega) _ k hk, Option.bind_some, if_pos hci, if_neg (by omega), if_neg (by omega), if_neg (by omega), if_neg (by omega), if_pos a, if_pos (by omega), w64 (x := q.f1 * (blocksV w h l q.f0).1) (by omega) (by omega), w64 (x := q.f1 * (blocksV w h l q.f0).1 + q.f2) (by omega) (by omega), if_pos i3, if_pos (by rw [hL, H3]; omega), if_neg hnot, hL, wsucc (by omega)]
    simp
def Zs (w h : Int) (l : List S66) (i : Nat) : List (List Bool) := (List.range i).map fun c : Nat => List.replicate ((blocksV w h l (c : Int)).1 * (blocksV w h l (c : Int)).2).toNat false
theorem Zs_inv : Inv w h l (Zs w h l l.length) [] := by
  refine ⟨by simp [Zs], fun c hc => ?_⟩
  have e : (Zs w h l l.length).getD c [] = List.replicate ((blocksV w h l (c : Int)).1 * (blocksV w h l (c : Int)).2).toNat false := by
    unfold Zs
    rw [List.getD_eq_getElem?_getD, List.getElem?_map, List.getElem?_range hc]; rfl
  rw [e]
  refine ⟨by simp, fun q => ?_⟩
  constructor
  · intro hq
    rw [List.getD_eq_getElem?_getD, List.getElem?_replicate] at hq
    split at hq <;> simp at hq
  · rintro ⟨x, hx, _⟩; simp at hx
include hb hcs hc0 hc4 hl4 in
theorem places_l0 (O : List S60) (hO : O = (orderL w h l cs).flatten) (hn : O.Pairwise (· ≠ ·)) (hol : O.length ≤ 100000000) : ∀ (d i : Nat), i + d = l.length → Ends fun k => laws_FnPlaces.l0 k cs O O (Zs w h l i) (i : Int) p w h r l := by
  intro d
  induction d with
  | zero =>
    intro i hi
    have hi : i = l.length := by omega
    subst hi
    refine Ends.step 0 (fun k _ => ?_) (places_l1 p w h r l hb cs hcs hc0 hc4 hl4 O hO hn hol O [] _ rfl (Zs_inv w h l))
    rw [laws_FnPlaces.l0, if_neg (by omega)]
    rfl
  | succ d ih =>
    intro i hi
    obtain ⟨b1, b2⟩ := blocksV_in p w h r l hb (i : Int) (by omega) (by omega)
    have hci : compIn p w h r l (i : Int) = true := compIn_iff.2 ⟨hb, by omega, by omega⟩
    have hm : 0 ≤ (blocksV w h l (i : Int)).1 * (blocksV w h l (i : Int)).2 := Int.mul_nonneg (by omega) (by omega)
    have hm2 : (blocksV w h l (i : Int)).1 * (blocksV w h l (i : Int)).2 ≤ 1024 * 1024 := Int.mul_le_mul (by omega) (by omega) (by omega) (by omega)
    have hz : (Zs w h l i).length = i := by simp [Zs]
    refine Ends.step 100 (fun k hk => ?_) (ih (i + 1) (by omega))
    rw [laws_FnPlaces.l0, if_pos (by omega), implBlocksOf_eq p w h r l (by omega) _ k hk, Option.bind_some, specBlocksOf_eq p w h r l (by omega) _ k hk, Option.bind_some, if_pos hci, if_pos rfl, if_pos rfl, w64 (x := (blocksV w h l (i : Int)).1 * (blocksV w h l (i : Int)).2) (by omega) (by omega), if_pos hm, if_pos (by omega), if_pos (by omega), wsucc (by omega)]
    congr 1
    unfold Zs
    rw [List.range_succ, List.map_append]; rfl
end
theorem drawComps_loop {b : List Int} (hb : BytesL b) (p w h r : Int) (l : List S66) (hl : l.length ≤ 100) : ∀ (d i : Nat) (x : List Int) (a s t : Int), i + d = l.length → x.length ≤ i → CurOk a s t → t + 2 * (d : Int) + 10 ≤ 1152921504606846976 → ∃ o a' s', (∀ k, d < k → spec_l04DrawComps.l0 k x (i : Int) b a s p w h r l = some (o, a', s')) ∧ o.length ≤ l.length + 1 := by
  intro d
  induction d with
  | zero =>
    intro i x a s t hi hx hc ht
    obtain ⟨o, a1, s1, e1, c1⟩ := once_ok hb 10 hc (by omega) (by omega)
    by_cases ho : o = true
    · obtain ⟨z, a2, s2, e2, p2, q2, c2⟩ := pick_ok hb 6 c1 (by omega) (by omega)
      refine ⟨x ++ [wrap64 (z - 1)], a2, s2, fun k hk => ?_, by simp; omega⟩
      obtain ⟨k, rfl⟩ : ∃ m, k = m + 1 := ⟨k - 1, by omega⟩
      rw [spec_l04DrawComps.l0, if_neg (by omega), e1, Option.bind_some, if_pos ho, e2, Option.bind_some, if_pos (by omega)]
    · refine ⟨x, a1, s1, fun k hk => ?_, by omega⟩
      obtain ⟨k, rfl⟩ : ∃ m, k = m + 1 := ⟨k - 1, by omega⟩
      rw [spec_l04DrawComps.l0, if_neg (by omega), e1, Option.bind_some, if_neg ho]
  | succ d ih =>
    intro i x a s t hi hx hc ht
    obtain ⟨o, a1, s1, e1, c1⟩ := once_ok hb 2 hc (by omega) (by omega)
    by_cases ho : o = true
    · obtain ⟨o', a', s', e, ho'⟩ := ih (i + 1) (x ++ [(i : Int)]) a1 s1 (t + 2) (by omega) (by simp; omega) c1 (by omega)
      refine ⟨o', a', s', fun k hk => ?_, ho'⟩
      obtain ⟨k, rfl⟩ : ∃ m, k = m + 1 := ⟨k - 1, by omega⟩
      rw [spec_l04DrawComps.l0, if_pos (by omega), e1, Option.bind_some, if_pos ho, if_pos (by omega), wsucc (by omega)]
      exact e k (by omega)
    · obtain ⟨o', a', s', e, ho'⟩ := ih (i + 1) x a1 s1 (t + 2) (by omega) (by omega) c1 (by omega)
      refine ⟨o', a', s', fun k hk => ?_, ho'⟩
      obtain ⟨k, rfl⟩ : ∃ m, k = m + 1 := ⟨k - 1, by omega⟩
      rw [spec_l04DrawComps.l0, if_pos (by omega), e1, Option.bind_some, if_neg ho, wsucc (by omega)]
      exact e k (by omega)
theorem drawOrder_ok {b : List Int} (hb : BytesL b) : ∃ p w h r l cs, (∀ k, 20 ≤ k → spec_DrawOrderOf.f k b = some (p, w, h, r, l, cs)) ∧ l.length ≤ 5 ∧ cs.length ≤ 6 := by
  obtain ⟨s, e0, c0⟩ := open_ok hb
  obtain ⟨p, w, h, r, l, a1, s1, e1, h1, c1⟩ := drawAnyF_ok hb 8 (by omega) c0 (by omega)
  obtain ⟨o, a2, s2, e2, h2⟩ := drawComps_loop hb p w h r l (by omega) l.length 0 [] a1 s1 (0 + 150) (by omega) (by simp) c1 (by omega)
  refine ⟨p, w, h, r, l, o, fun k hk => ?_, h1, by omega⟩
  unfold spec_DrawOrderOf.f spec_l04DrawComps.f
  have e2' := e2 k (by omega)
  rw [e0, Option.bind_some, e1 k (by omega), Option.bind_some]
  exact (congrArg (fun z => Option.bind z _) e2').trans rfl
theorem FnPlaces : laws_FnPlaces.Pure := by
  intro b hm _ hw
  by_cases h0 : (b.length : Int) > 1048576
  · exact ⟨0, by unfold laws_FnPlaces.f; rw [laws_big.f, Option.bind_some, if_pos (by simpa using h0)]⟩
  have hb : BytesL b := ⟨by omega, fun x hx => wfu8 (hw x hx)⟩
  obtain ⟨p, w, h, r, l, cs, e0, hl, hcl⟩ := drawOrder_ok hb
  obtain ⟨K1, e1⟩ := implOrderOf_ends p w h r l (by omega) cs (by omega)
  obtain ⟨K2, e2⟩ := specOrderOf_ends p w h r l (by omega) cs (by omega)
  obtain ⟨K3, e3⟩ := specUnitsOf_ends p w h r l (by omega) cs (by omega)
  have e4 := fun k hk => implUnitsOf_eq p w h r l (by omega) cs (by omega) k hk
  have main : ∃ K, ∀ k, K ≤ k → laws_FnPlaces.j0 k cs (orderR p w h r l cs) (orderR p w h r l cs) false p w h r l = some true := by
    by_cases hz : ((orderR p w h r l cs).length : Int) = 0
    · refine ⟨1, fun k hk => ?_⟩
      obtain ⟨k, rfl⟩ : ∃ m, k = m + 1 := ⟨k - 1, by omega⟩
      rw [laws_FnPlaces.j0, if_neg (by decide), if_pos hz]
    · have hbc : (frameB p w h r l && compsB l cs) = true := by
        by_cases hbc : (frameB p w h r l && compsB l cs) = true
        · exact hbc
        · exfalso; apply hz; unfold orderR; rw [if_neg hbc]; rfl
      have hR : orderR p w h r l cs = (orderL w h l cs).flatten := by unfold orderR; rw [if_pos hbc]
      rw [Bool.and_eq_true] at hbc
      obtain ⟨hf, hc⟩ := hbc
      have hl4 := (frameB_parts hf).2.2.1.2
      obtain ⟨c1, c2, c3⟩ := compsB_parts hl4 hc
      have hpw : cs.Pairwise (· ≠ ·) := by
        unfold compsB at hc
        rw [Bool.and_eq_true] at hc
        exact (risB_pw _ _ _ hc.1).1.imp (fun h => Int.ne_of_lt h)
      have hlen := orderR_len p w h r l cs
      have hnd := order_nodup w h l cs hpw
      obtain ⟨K, e⟩ := places_l0 p w h r l hf cs c1 c2 c3 (by omega) (orderR p w h r l cs) hR (by rw [hR]; exact hnd) (by omega) l.length 0 (by omega)
      refine ⟨K + 1, fun k hk => ?_⟩
      obtain ⟨k, rfl⟩ : ∃ m, k = m + 1 := ⟨k - 1, by omega⟩
      rw [laws_FnPlaces.j0, if_neg (by decide), if_neg hz]
      exact e k (by omega)
  obtain ⟨K4, e5⟩ := main
  refine ⟨K1 + K2 + K3 + K4 + 1000, ?_⟩
  unfold laws_FnPlaces.f
  rw [laws_big.f, Option.bind_some, if_neg (by simpa using h0), e0 _ (by omega), Option.bind_some, e1 _ (by omega), Option.bind_some, e2 _ (by omega), Option.bind_some, if_pos rfl, e4 _ (by omega), Option.bind_some, e3 _ (by omega), Option.bind_some, bne_self_eq_false]
  exact e5 _ (by omega)

end Go.Proofs.Ytbhfimbikooccaa.Pure
