/- The pure statement of the law FnExactCodesOf, for every input that its guards let in. -/
import Derived.Test.YtbiamhmjcnmjgaaPFnExactCodesOfx4
import Derived.Test.YtbiamhmjcnmjgaaWSized
-- The printed row names this word without its seat: the same fact under that name.
namespace Go.Proofs.PrintWords
theorem sized_ints {H : Type} {enc : TypeId × Value → H} {P : Program} {W : World} {base : Nat} {spare : Nat → Bool} {held : Bool} {t e : TypeId} {k : IntKind} {a : Option Addr} {len cap : Nat} {d : DataW H} {ps : List MemPlace} {ts : List TypeId} {ds : List (DataW H)} {j : Nat} (hsz : (DataW.weightsEach P ts ds).all (· ≤ reachBytes) = true) (ht : ts[j]? = some t) (hd : ds[j]? = some d) (hu : P.underlying t = some (.slice e)) (he : P.underlying e = some (.int k)) (hc : P.cellsOf e = 1) {B : Nat} (hB : P.bytesOf e = B) (h : DataW.Trod enc P W base spare held t (.slice a len cap) d ps) : len * B ≤ 140737488351232 := Go.Proofs.YtbiamhmjcnmjgaaW.PrintWords.sized_ints hsz ht hd hu he hc hB h
end Go.Proofs.PrintWords
namespace Go.Proofs.Ytbiamhmjcnmjgaa.Pure
open Go.RowKit Go.Proofs.Ytbiamhmjcnmjgaa.PFnExactCodesOf Go.Proofs.YtbiamhmjcnmjgaaW.PrintWords Go.Proofs.YtbiamhmjcnmjgaaW.PrintLast Go.Proofs.YtbiamhmjcnmjgaaW.PrintMore
set_option linter.unusedVariables false
set_option linter.unusedSimpArgs false
set_option maxRecDepth 4000

theorem w64 {x : Int} (h1 : -9223372036854775808 ≤ x) (h2 : x ≤ 9223372036854775807) : wrap64 x = x := by unfold wrap64; omega
theorem wsucc {i : Nat} (h : i ≤ 4611686018427387904) : wrap64 ((i : Int) + 1) = ((i + 1 : Nat) : Int) := by unfold wrap64; omega
theorem rd_nat (l : List Int) (i : Nat) (h : i < l.length) : rd l (i : Int) = l[i] := by simp [rd, List.getD_eq_getElem?_getD, h]
theorem drop_at {α : Type} (l : List α) (i : Nat) (h : i < l.length) : l.drop i = l[i] :: l.drop (i + 1) := List.drop_eq_getElem_cons h
theorem wf64 {x : Int} (h : (Lit.int .i64 x).wf = true) : -9223372036854775808 ≤ x ∧ x ≤ 9223372036854775807 := by
  simp [Lit.wf, IntKind.min, IntKind.max, IntKind.bits, IntKind.signed] at h; omega
theorem wfu8 {x : Int} (h : (Lit.int .u8 x).wf = true) : 0 ≤ x ∧ x ≤ 255 := by
  simp [Lit.wf, IntKind.min, IntKind.max, IntKind.bits, IntKind.signed] at h; omega

theorem between_eq (a lo hi : Int) : spec_l01Between.f a lo hi = some (decide (lo ≤ a ∧ a ≤ hi)) := by
  unfold spec_l01Between.f
  by_cases h : a ≥ lo
  · rw [if_pos h]; congr 1; simp; omega
  · rw [if_neg h]; congr 1; simp; omega

theorem within_eq (a lo hi : Int) : impl_within.f a lo hi = some (decide (lo ≤ a ∧ a ≤ hi)) := by
  unfold impl_within.f
  by_cases h : a ≥ lo
  · rw [if_pos h]; congr 1; simp; omega
  · rw [if_neg h]; congr 1; simp; omega

def inR (lo hi : Int) (l : List Int) : Bool := l.all fun x => decide (lo ≤ x ∧ x ≤ hi)
theorem inR_nil (lo hi : Int) : inR lo hi [] = true := rfl
theorem inR_cons (lo hi x : Int) (l : List Int) : inR lo hi (x :: l) = (decide (lo ≤ x ∧ x ≤ hi) && inR lo hi l) := rfl
theorem inR_at {lo hi : Int} {l : List Int} (h : inR lo hi l = true) (i : Nat) (hi' : i < l.length) : lo ≤ l[i] ∧ l[i] ≤ hi := by
  unfold inR at h; rw [List.all_eq_true] at h; simpa using h l[i] (List.getElem_mem hi')

theorem allWithin_loop (l : List Int) (lo hi : Int) (hl : l.length ≤ 4611686018427387904) : ∀ (d k i : Nat), i + d = l.length → d < k → impl_allWithin.l0 k lo hi l (l.length : Int) (i : Int) = some (inR lo hi (l.drop i)) := by
  intro d
  induction d with
  | zero =>
    intro k i h1 hk
    obtain ⟨k, rfl⟩ : ∃ m, k = m + 1 := ⟨k - 1, by omega⟩
    rw [impl_allWithin.l0, if_neg (by omega), List.drop_eq_nil_of_le (by omega), inR_nil]
  | succ d ih =>
    intro k i h1 hk
    obtain ⟨k, rfl⟩ : ∃ m, k = m + 1 := ⟨k - 1, by omega⟩
    rw [impl_allWithin.l0, if_pos (by omega), if_pos (by omega), if_pos (by omega), within_eq, rd_nat l i (by omega), wsucc (by omega), ih k (i + 1) (by omega) (by omega), drop_at l i (by omega), inR_cons]
    simp only [Option.bind_some]
    by_cases h : lo ≤ l[i] ∧ l[i] ≤ hi <;> simp [h]
theorem allWithin_eq (l : List Int) (lo hi : Int) (hl : l.length ≤ 4611686018427387904) (k : Nat) (hk : l.length < k) : impl_allWithin.f k l lo hi = some (inR lo hi l) := by
  unfold impl_allWithin.f
  exact allWithin_loop l lo hi hl l.length k 0 (by omega) hk

def pw (x : Int) : Int := if x > 0 then shl .i64 1 (wrap64 (16 - x)) else 0
theorem pw_bd {x : Int} (h0 : 0 ≤ x) (h1 : x ≤ 16) : 0 ≤ pw x ∧ pw x ≤ 32768 := by
  have hc : x = 0 ∨ x = 1 ∨ x = 2 ∨ x = 3 ∨ x = 4 ∨ x = 5 ∨ x = 6 ∨ x = 7 ∨ x = 8 ∨ x = 9 ∨ x = 10 ∨ x = 11 ∨ x = 12 ∨ x = 13 ∨ x = 14 ∨ x = 15 ∨ x = 16 := by omega
  rcases hc with rfl | rfl | rfl | rfl | rfl | rfl | rfl | rfl | rfl | rfl | rfl | rfl | rfl | rfl | rfl | rfl | rfl <;> decide +kernel
def pwSum : List Int → Int
  | [] => 0
  | x :: xs => pw x + pwSum xs
def lensB (l : List Int) : Bool := decide ((l.length : Int) ≤ 256) && (inR 0 16 l && decide (1 ≤ pwSum l ∧ pwSum l ≤ 65536))
theorem specLens_loop (l : List Int) (hl : l.length ≤ 256) : ∀ (d k i : Nat) (s : Int), i + d = l.length → d < k → 0 ≤ s → s ≤ 32768 * (i : Int) → spec_LensOk.l0 k l s (i : Int) = some (inR 0 16 (l.drop i) && decide (1 ≤ s + pwSum (l.drop i) ∧ s + pwSum (l.drop i) ≤ 65536)) := by
  intro d
  induction d with
  | zero =>
    intro k i s h1 hk h0 hs
    obtain ⟨k, rfl⟩ : ∃ m, k = m + 1 := ⟨k - 1, by omega⟩
    rw [spec_LensOk.l0, if_neg (by omega), List.drop_eq_nil_of_le (by omega)]
    simp only [inR_nil, pwSum, Int.add_zero, Bool.true_and]
    by_cases h : s > 0
    · rw [if_pos h]; congr 1; simp; omega
    · rw [if_neg h]; congr 1; simp; omega
  | succ d ih =>
    intro k i s h1 hk h0 hs
    obtain ⟨k, rfl⟩ : ∃ m, k = m + 1 := ⟨k - 1, by omega⟩
    rw [spec_LensOk.l0, if_pos (by omega), if_pos (by omega), rd_nat l i (by omega), between_eq, Option.bind_some, wsucc (by omega), drop_at l i (by omega), inR_cons, pwSum]
    by_cases h : 0 ≤ l[i] ∧ l[i] ≤ 16
    · have hp := pw_bd h.1 h.2
      rw [if_pos (by simpa using h), decide_eq_true h, Bool.true_and]
      by_cases hz : l[i] > 0
      · have e : pw l[i] = shl .i64 1 (wrap64 (16 - l[i])) := if_pos hz
        rw [if_pos hz, ← e, if_pos (by rw [w64 (by omega) (by omega)]; omega), w64 (by omega) (by omega), ih k (i + 1) _ (by omega) (by omega) (by omega) (by omega), Int.add_assoc]
      · have e : pw l[i] = 0 := if_neg hz
        rw [if_neg hz, ih k (i + 1) _ (by omega) (by omega) (by omega) (by omega), e, Int.zero_add]
    · rw [if_neg (by simpa using h), decide_eq_false h, Bool.false_and]
      rfl
theorem specLens_eq (l : List Int) (k : Nat) (hk : 256 < k) : spec_LensOk.f k l = some (lensB l) := by
  unfold spec_LensOk.f lensB
  by_cases h : (l.length : Int) > 256
  · rw [if_pos h, decide_eq_false (by omega), Bool.false_and]
  · rw [if_neg h, decide_eq_true (by omega), Bool.true_and]
    have := specLens_loop l (by omega) l.length k 0 0 (by omega) (by omega) (by omega) (by omega)
    simpa using this
theorem implLens_loop (l : List Int) (hl : l.length ≤ 256) (hr : inR 0 16 l = true) : ∀ (d k i : Nat) (s : Int), i + d = l.length → d < k → 0 ≤ s → s ≤ 32768 * (i : Int) → impl_LensOk.l0 k s l (l.length : Int) (i : Int) = some (decide (1 ≤ s + pwSum (l.drop i) ∧ s + pwSum (l.drop i) ≤ 65536)) := by
  intro d
  induction d with
  | zero =>
    intro k i s h1 hk h0 hs
    obtain ⟨k, rfl⟩ : ∃ m, k = m + 1 := ⟨k - 1, by omega⟩
    rw [impl_LensOk.l0, if_neg (by omega), List.drop_eq_nil_of_le (by omega), within_eq]
    simp only [pwSum, Int.add_zero, Option.bind_some]
  | succ d ih =>
    intro k i s h1 hk h0 hs
    obtain ⟨k, rfl⟩ : ∃ m, k = m + 1 := ⟨k - 1, by omega⟩
    have h := inR_at hr i (by omega)
    have hp := pw_bd h.1 h.2
    rw [impl_LensOk.l0, if_pos (by omega), if_pos (by omega), if_pos (by omega), rd_nat l i (by omega), wsucc (by omega), drop_at l i (by omega), pwSum]
    by_cases hz : l[i] > 0
    · have e : pw l[i] = shl .i64 1 (wrap64 (16 - l[i])) := if_pos hz
      rw [if_pos hz, ← e, if_pos (by rw [w64 (by omega) (by omega)]; omega), w64 (by omega) (by omega), ih k (i + 1) _ (by omega) (by omega) (by omega) (by omega), Int.add_assoc]
    · have e : pw l[i] = 0 := if_neg hz
      rw [if_neg hz, ih k (i + 1) _ (by omega) (by omega) (by omega) (by omega), e, Int.zero_add]
theorem implLens_eq (l : List Int) (k : Nat) (hk : 300 < k) : impl_LensOk.f k l = some (lensB l) := by
  obtain ⟨k, rfl⟩ : ∃ m, k = m + 1 := ⟨k - 1, by omega⟩
  unfold impl_LensOk.f lensB
  by_cases h : (l.length : Int) > 256
  · rw [if_pos h, impl_LensOk.j0, decide_eq_false (by omega), Bool.false_and]; rfl
  · rw [if_neg h, decide_eq_true (by omega), Bool.true_and, allWithin_eq l 0 16 (by omega) _ (by omega), Option.bind_some, impl_LensOk.j0]
    by_cases hr : inR 0 16 l = true
    · have := implLens_loop l (by omega) hr l.length k 0 0 (by omega) (by omega) (by omega) (by omega)
      rw [hr]
      simpa using this
    · have hr : inR 0 16 l = false := by simpa using hr
      rw [hr]; rfl

theorem codes_same (l : List Int) : ∀ k : Nat, (∀ x a b, impl_CodesOf.l0 k l x a b = spec_CodesOf.l0 k l x a b) ∧ (∀ x a b i, impl_CodesOf.l1 k l x a b l (l.length : Int) i = spec_CodesOf.l1 k l x a b i) := by
  intro k
  induction k with
  | zero => exact ⟨fun _ _ _ => rfl, fun _ _ _ _ => rfl⟩
  | succ k ih =>
    refine ⟨fun x a b => ?_, fun x a b i => ?_⟩
    · rw [impl_CodesOf.l0, spec_CodesOf.l0, ih.2, Int.mul_comm]
    · rw [impl_CodesOf.l1, spec_CodesOf.l1]
      by_cases h : i < (l.length : Int)
      · simp only [if_pos h, ih.1, ih.2]
      · simp only [if_neg h, ih.1]
theorem codes_l1 (l : List Int) (hl : l.length ≤ 256) (b : Int) : ∀ (d i : Nat) (x : List S72) (a : Int), i + d = l.length → x.length = l.length → ∃ x' a', x'.length = l.length ∧ ∀ k : Nat, spec_CodesOf.l1 (k + d + 1) l x a b (i : Int) = spec_CodesOf.l0 k l x' a' (wrap64 (b + 1)) := by
  intro d
  induction d with
  | zero =>
    intro i x a hi hx
    exact ⟨x, a, hx, fun k => by rw [spec_CodesOf.l1, if_neg (by omega)]⟩
  | succ d ih =>
    intro i x a hi hx
    by_cases h : rd l (i : Int) = b
    · obtain ⟨x', a', hx', he⟩ := ih (i + 1) (x.set (i : Int).toNat ⟨b, a⟩) (wrap64 (a + 1)) (by omega) (by simpa using hx)
      refine ⟨x', a', hx', fun k => ?_⟩
      rw [show k + (d + 1) + 1 = (k + d + 1) + 1 by omega, spec_CodesOf.l1, if_pos (by omega), if_pos (by omega), wsucc (by omega), if_pos h, if_pos (by omega), he]
    · obtain ⟨x', a', hx', he⟩ := ih (i + 1) x a (by omega) hx
      refine ⟨x', a', hx', fun k => ?_⟩
      rw [show k + (d + 1) + 1 = (k + d + 1) + 1 by omega, spec_CodesOf.l1, if_pos (by omega), if_pos (by omega), wsucc (by omega), if_neg h, he]
theorem codes_l0 (l : List Int) (hl : l.length ≤ 256) : ∀ (e : Nat) (b a : Int) (x : List S72), b + e = 17 → 1 ≤ b → x.length = l.length → ∃ k r, r.length = l.length ∧ spec_CodesOf.l0 k l x a b = some r := by
  intro e
  induction e with
  | zero =>
    intro b a x hb h1 hx
    exact ⟨1, x, hx, by rw [spec_CodesOf.l0, if_neg (by omega)]⟩
  | succ e ih =>
    intro b a x hb h1 hx
    obtain ⟨x0, a0, hx0, he0⟩ := codes_l1 l hl b l.length 0 x (wrap64 (2 * a)) (by omega) hx
    obtain ⟨k, r, hr, hk⟩ := ih (wrap64 (b + 1)) a0 x0 (by rw [w64 (by omega) (by omega)]; omega) (by rw [w64 (by omega) (by omega)]; omega) hx0
    refine ⟨k + l.length + 1 + 1, r, hr, ?_⟩
    rw [spec_CodesOf.l0, if_pos (by omega)]
    exact (he0 k).trans hk
theorem codes_eq (l : List Int) : ∃ r K, r.length ≤ 256 ∧ (∀ k : Nat, K ≤ k → spec_CodesOf.f k l = some r) ∧ (∀ k : Nat, K ≤ k → impl_CodesOf.f k l = some r) := by
  by_cases hb : lensB l = true
  · have hl : l.length ≤ 256 := by
      simp [lensB] at hb
      omega
    obtain ⟨k, r, hr, hk⟩ := codes_l0 l hl 16 1 0 (List.replicate l.length z72) (by omega) (by omega) (by simp)
    refine ⟨r, k + 400, by omega, fun m hm => ?_, fun m hm => ?_⟩
    · unfold spec_CodesOf.f
      rw [specLens_eq l m (by omega), hb, Option.bind_some, if_pos rfl, if_pos (by omega), if_pos (by omega)]
      exact at_rounds (fun j => (spec_CodesOf.mono_l j).1 _ _ _ _) (show k ≤ m by omega) hk
    · unfold impl_CodesOf.f
      rw [implLens_eq l m (by omega), hb, Option.bind_some, if_pos rfl, if_pos (by omega), if_pos (by omega), (codes_same l m).1]
      exact at_rounds (fun j => (spec_CodesOf.mono_l j).1 _ _ _ _) (show k ≤ m by omega) hk
  · have hb : lensB l = false := by simpa using hb
    refine ⟨[], 400, by simp, fun m hm => ?_, fun m hm => ?_⟩
    · unfold spec_CodesOf.f
      rw [specLens_eq l m (by omega), hb]; rfl
    · unfold impl_CodesOf.f
      rw [implLens_eq l m (by omega), hb]; rfl

theorem eqField_refl (a0 a1 : Int) : laws_eqField.f a0 a1 a0 a1 = some true := by simp [laws_eqField.f]
theorem eqFieldS_loop (l : List S72) (hl : l.length ≤ 4611686018427387904) : ∀ (d k i : Nat), i + d = l.length → d < k → laws_eqFieldS.l0 k l l (i : Int) = some true := by
  intro d
  induction d with
  | zero =>
    intro k i hi hk
    obtain ⟨k, rfl⟩ : ∃ m, k = m + 1 := ⟨k - 1, by omega⟩
    rw [laws_eqFieldS.l0, if_neg (by omega)]
  | succ d ih =>
    intro k i hi hk
    obtain ⟨k, rfl⟩ : ∃ m, k = m + 1 := ⟨k - 1, by omega⟩
    rw [laws_eqFieldS.l0, if_pos (by omega), if_pos (by omega), if_pos (by omega), eqField_refl, Option.bind_some, if_pos rfl, wsucc (by omega)]
    exact ih k (i + 1) (by omega) (by omega)
theorem eqFieldS_refl (l : List S72) (hl : l.length ≤ 4611686018427387904) (k : Nat) (hk : l.length < k) : laws_eqFieldS.f k l l = some true := by
  unfold laws_eqFieldS.f
  rw [if_pos rfl]
  exact eqFieldS_loop l hl l.length k 0 (by omega) hk
def marksField (m : Int) (n : Nat) : List S72 := (List.range n).map fun j : Nat => ⟨(m + 2 * (j : Int)), (m + 2 * (j : Int)) + 1⟩
theorem marksField_len (m : Int) (n : Nat) : (marksField m n).length = n := by simp [marksField]
theorem rdField_set (x : List S72) (i : Nat) (v : S72) (h : i < x.length) : rd_T72 (x.set (i : Int).toNat v) (i : Int) = v := by
  simp [rd_T72, h]
theorem rdField_nat (l : List S72) (i : Nat) (h : i < l.length) : rd_T72 l (i : Int) = l[i] := by simp [rd_T72, List.getD_eq_getElem?_getD, h]
theorem markFieldS_loop (m : Int) (n : Nat) (hm : -1 ≤ m ∧ m ≤ 1152921504606846976) (hn : n ≤ 140737488355328) : ∀ (d k i : Nat) (x : List S72), i + d = n → d < k → x.length = n → (∀ j : Nat, j < i → x[j]? = some ⟨(m + 2 * (j : Int)), (m + 2 * (j : Int)) + 1⟩) → laws_markFieldS.l0 k x (m + 2 * (i : Int)) (i : Int) = some (m + 2 * (n : Int), marksField m n) := by
  intro d
  induction d with
  | zero =>
    intro k i x h1 hk hx he
    obtain ⟨k, rfl⟩ : ∃ m, k = m + 1 := ⟨k - 1, by omega⟩
    rw [laws_markFieldS.l0, if_neg (by omega)]
    have e : x = marksField m n := by
      apply List.ext_getElem?
      intro j
      by_cases hj : j < n
      · rw [he j (by omega)]; simp [marksField, hj]
      · rw [List.getElem?_eq_none (by omega), List.getElem?_eq_none (by rw [marksField_len]; omega)]
    rw [e, show i = n by omega]
  | succ d ih =>
    intro k i x h1 hk hx he
    obtain ⟨k, rfl⟩ : ∃ m, k = m + 1 := ⟨k - 1, by omega⟩
    rw [laws_markFieldS.l0, if_pos (by omega), if_pos (by omega)]
    simp only [Option.bind_some, rdField_set x i _ (show i < x.length by omega), List.set_set]
    rw [wsucc (by omega), w64 (x := m + 2 * (i : Int) + 1) (by omega) (by omega), w64 (x := m + 2 * (i : Int) + 1 + 1) (by omega) (by omega), show m + 2 * (i : Int) + 1 + 1 = m + 2 * ((i + 1 : Nat) : Int) by omega]
    refine ih k (i + 1) _ (by omega) (by omega) (by simpa using hx) ?_
    intro j hj
    rw [Int.toNat_natCast, List.getElem?_set]
    by_cases e : i = j
    · subst e; simp [show i < x.length by omega]
    · rw [if_neg e]; exact he j (by omega)
theorem markFieldS_eq (l : List S72) (m : Int) (hm : -1 ≤ m ∧ m ≤ 1152921504606846976) (hn : l.length ≤ 140737488355328) (k : Nat) (hk : l.length < k) : laws_markFieldS.f k l m = some (m + 2 * (l.length : Int), marksField m l.length) := by
  unfold laws_markFieldS.f
  have := markFieldS_loop m l.length hm hn l.length k 0 l (by omega) hk rfl (by intro j hj; omega)
  simpa using this
theorem heldFieldS_loop (m : Int) (n : Nat) (hm : -1 ≤ m ∧ m ≤ 1152921504606846976) (hn : n ≤ 140737488355328) : ∀ (d k i : Nat), i + d = n → d < k → laws_heldFieldS.l0 k (marksField m n) (m + 2 * (i : Int)) (i : Int) = some (m + 2 * (n : Int)) := by
  intro d
  have hl := marksField_len m n
  induction d with
  | zero =>
    intro k i h1 hk
    obtain ⟨k, rfl⟩ : ∃ m, k = m + 1 := ⟨k - 1, by omega⟩
    rw [laws_heldFieldS.l0, if_neg (by omega), show i = n by omega]
  | succ d ih =>
    intro k i h1 hk
    obtain ⟨k, rfl⟩ : ∃ m, k = m + 1 := ⟨k - 1, by omega⟩
    have e : (marksField m n)[i]'(by omega) = ⟨(m + 2 * (i : Int)), (m + 2 * (i : Int)) + 1⟩ := by simp [marksField]
    rw [laws_heldFieldS.l0, if_pos (by omega), if_pos (by omega), rdField_nat (marksField m n) i (by omega), e, wsucc (by omega)]
    simp only []
    rw [w64 (x := m + 2 * (i : Int) + 1) (by omega) (by omega), w64 (x := m + 2 * (i : Int) + 1 + 1) (by omega) (by omega)]
    rw [if_pos (by first | trivial | rfl | omega), if_pos (by first | trivial | rfl | omega), show m + 2 * (i : Int) + 1 + 1 = m + 2 * ((i + 1 : Nat) : Int) by omega]
    exact ih k (i + 1) (by omega) (by omega)
theorem heldFieldS_eq (m : Int) (n : Nat) (hm : -1 ≤ m ∧ m ≤ 1152921504606846976) (hn : n ≤ 140737488355328) (k : Nat) (hk : n < k) : laws_heldFieldS.f k (marksField m n) m = some (m + 2 * (n : Int)) := by
  unfold laws_heldFieldS.f
  have := heldFieldS_loop m n hm hn n k 0 (by omega) hk
  simpa using this

theorem toIntS_loop (l : List Int) (hl : l.length ≤ 4611686018427387904) : ∀ (d k i : Nat) (x : List Int), i + d = l.length → d < k → x.length = l.length → (∀ j, j < i → x[j]? = l[j]?) → laws_toIntS.l0 k l x (i : Int) = some l := by
  intro d
  induction d with
  | zero =>
    intro k i x hi hk hx he
    obtain ⟨k, rfl⟩ : ∃ m, k = m + 1 := ⟨k - 1, by omega⟩
    rw [laws_toIntS.l0, if_neg (by omega)]
    congr 1
    apply List.ext_getElem? 
    intro j
    by_cases hj : j < i
    · exact he j hj
    · rw [List.getElem?_eq_none (by omega), List.getElem?_eq_none (by omega)]
  | succ d ih =>
    intro k i x hi hk hx he
    obtain ⟨k, rfl⟩ : ∃ m, k = m + 1 := ⟨k - 1, by omega⟩
    rw [laws_toIntS.l0, if_pos (by omega), if_pos (by omega), if_pos (by omega), wsucc (by omega)]
    refine ih k (i + 1) _ (by omega) (by omega) (by simpa using hx) ?_
    intro j hj
    rw [rd_nat l i (by omega), Int.toNat_natCast, List.getElem?_set]
    by_cases e : i = j
    · subst e; simp [show i < x.length by omega, List.getElem?_eq_getElem (show i < l.length by omega)]
    · rw [if_neg e]; exact he j (by omega)
theorem toIntS_eq (l : List Int) (hl : l.length ≤ 17592186044416) (k : Nat) (hk : l.length < k) : laws_toIntS.f k l = some l := by
  unfold laws_toIntS.f
  rw [if_pos (by omega), if_pos (by omega)]
  exact toIntS_loop l (by omega) l.length k 0 _ (by omega) hk (by simp) (by intro j hj; omega)

theorem eqIntS_loop (l : List Int) (hl : l.length ≤ 4611686018427387904) : ∀ (d k i : Nat), i + d = l.length → d < k → laws_eqIntS.l0 k l l (i : Int) = some true := by
  intro d
  induction d with
  | zero =>
    intro k i hi hk
    obtain ⟨k, rfl⟩ : ∃ m, k = m + 1 := ⟨k - 1, by omega⟩
    rw [laws_eqIntS.l0, if_neg (by omega)]
  | succ d ih =>
    intro k i hi hk
    obtain ⟨k, rfl⟩ : ∃ m, k = m + 1 := ⟨k - 1, by omega⟩
    rw [laws_eqIntS.l0, if_pos (by omega), if_pos (by omega), if_pos (by omega), if_pos rfl, wsucc (by omega)]
    exact ih k (i + 1) (by omega) (by omega)
theorem eqIntS_refl (l : List Int) (hl : l.length ≤ 4611686018427387904) (k : Nat) (hk : l.length < k) : laws_eqIntS.f k l l = some true := by
  unfold laws_eqIntS.f
  rw [if_pos rfl]
  exact eqIntS_loop l hl l.length k 0 (by omega) hk

def marks (m : Int) (n : Nat) : List Int := (List.range n).map fun j : Nat => m + (j : Int)
theorem marks_len (m : Int) (n : Nat) : (marks m n).length = n := by simp [marks]
theorem markIntS_loop (m : Int) (n : Nat) (hm : -1 ≤ m ∧ m ≤ 2305843009213693952) (hn : n ≤ 2305843009213693952) : ∀ (d k i : Nat) (x : List Int), i + d = n → d < k → x.length = n → (∀ j : Nat, j < i → x[j]? = some (m + (j : Int))) → laws_markIntS.l0 k x (m + (i : Int)) (i : Int) = some (m + (n : Int), marks m n) := by
  intro d
  induction d with
  | zero =>
    intro k i x h1 hk hx he
    obtain ⟨k, rfl⟩ : ∃ m, k = m + 1 := ⟨k - 1, by omega⟩
    rw [laws_markIntS.l0, if_neg (by omega)]
    have e : x = marks m n := by
      apply List.ext_getElem?
      intro j
      by_cases hj : j < n
      · rw [he j (by omega)]; simp [marks, hj]
      · rw [List.getElem?_eq_none (by omega), List.getElem?_eq_none (by rw [marks_len]; omega)]
    rw [e, show i = n by omega]
  | succ d ih =>
    intro k i x h1 hk hx he
    obtain ⟨k, rfl⟩ : ∃ m, k = m + 1 := ⟨k - 1, by omega⟩
    rw [laws_markIntS.l0, if_pos (by omega), if_pos (by omega), wsucc (by omega), w64 (by omega) (by omega), show m + (i : Int) + 1 = m + ((i + 1 : Nat) : Int) by omega]
    refine ih k (i + 1) _ (by omega) (by omega) (by simpa using hx) ?_
    intro j hj
    rw [Int.toNat_natCast, List.getElem?_set]
    by_cases e : i = j
    · subst e; simp [show i < x.length by omega]
    · rw [if_neg e]; exact he j (by omega)
theorem markIntS_eq (l : List Int) (m : Int) (hm : -1 ≤ m ∧ m ≤ 2305843009213693952) (hn : l.length ≤ 2305843009213693952) (k : Nat) (hk : l.length < k) : laws_markIntS.f k l m = some (m + (l.length : Int), marks m l.length) := by
  unfold laws_markIntS.f
  have := markIntS_loop m l.length hm hn l.length k 0 l (by omega) hk rfl (by intro j hj; omega)
  simpa using this

theorem FnExactCodesOf : laws_FnExactCodesOf.Pure := by
  intro l hm hr hw
  obtain ⟨r, K0, hrl, e2, e3⟩ := codes_eq l
  obtain ⟨K, hK⟩ : ∃ K, K = l.length + K0 + 400 := ⟨_, rfl⟩
  refine ⟨K + 1, ?_⟩
  unfold laws_FnExactCodesOf.f
  by_cases h : (l.length : Int) > 1048576
  · rw [if_pos h]
  rw [if_neg h]
  have e1 := toIntS_eq l (by omega)
  have e4 := eqIntS_refl l (by omega)
  have e5 := eqFieldS_refl r (by omega)
  have e6 := markIntS_eq l 1 (by omega) (by omega)
  have e7 := markFieldS_eq r 1 (by omega) (by omega)
  have e8 := heldFieldS_eq 1 r.length (by omega) (by omega)
  have g1 : ¬ (1 + (l.length : Int) < 0) := by omega
  have g2 : ¬ (1 + 2 * (r.length : Int) < 0) := by omega
  simp (disch := omega) only [e1, e2, e3, e4, e5, e6, Option.bind_some, if_true, if_neg g1]
  rw [laws_FnExactCodesOf.j0]
  simp (disch := omega) only [e1, e3, e5, e7, e8, Option.bind_some, if_true, if_neg g2, Bool.not_true, Bool.false_eq_true, if_false]

end Go.Proofs.Ytbiamhmjcnmjgaa.Pure
