/- The pure statement of the law FnExactCostOf, for every input that its guards let in. -/
import Derived.Test.YtbhfimbikooccaaPFnExactCostOfx3
import Derived.Test.YtbhfimbikooccaaWSized
-- The printed row names this word without its seat: the same fact under that name.
namespace Go.Proofs.PrintWords
theorem sized_ints {H : Type} {enc : TypeId × Value → H} {P : Program} {W : World} {base : Nat} {spare : Nat → Bool} {held : Bool} {t e : TypeId} {k : IntKind} {a : Option Addr} {len cap : Nat} {d : DataW H} {ps : List MemPlace} {ts : List TypeId} {ds : List (DataW H)} {j : Nat} (hsz : (DataW.weightsEach P ts ds).all (· ≤ reachBytes) = true) (ht : ts[j]? = some t) (hd : ds[j]? = some d) (hu : P.underlying t = some (.slice e)) (he : P.underlying e = some (.int k)) (hc : P.cellsOf e = 1) {B : Nat} (hB : P.bytesOf e = B) (h : DataW.Trod enc P W base spare held t (.slice a len cap) d ps) : len * B ≤ 140737488351232 := Go.Proofs.YtbhfimbikooccaaW.PrintWords.sized_ints hsz ht hd hu he hc hB h
end Go.Proofs.PrintWords
namespace Go.Proofs.Ytbhfimbikooccaa.Pure
open Go.RowKit Go.Proofs.Ytbhfimbikooccaa.PFnExactCostOf Go.Proofs.YtbhfimbikooccaaW.PrintWords Go.Proofs.YtbhfimbikooccaaW.PrintLast Go.Proofs.YtbhfimbikooccaaW.PrintMore
set_option linter.unusedVariables false
set_option linter.unusedSimpArgs false
set_option maxRecDepth 4000

theorem w64 {x : Int} (h1 : -9223372036854775808 ≤ x) (h2 : x ≤ 9223372036854775807) : wrap64 x = x := by unfold wrap64; omega
theorem wsucc {i : Nat} (h : i ≤ 4611686018427387904) : wrap64 ((i : Int) + 1) = ((i + 1 : Nat) : Int) := by unfold wrap64; omega
theorem rd_nat (l : List Int) (i : Nat) (h : i < l.length) : rd l (i : Int) = l[i] := by simp [rd, List.getD_eq_getElem?_getD, h]
theorem drop_at {α : Type} (l : List α) (i : Nat) (h : i < l.length) : l.drop i = l[i] :: l.drop (i + 1) := List.drop_eq_getElem_cons h
theorem wf64 {x : Int} (h : (Lit.int .i64 x).wf = true) : -9223372036854775808 ≤ x ∧ x ≤ 9223372036854775807 := by
  simp [Lit.wf, IntKind.min, IntKind.max, IntKind.bits, IntKind.signed] at h; omega
theorem wfu8 {x : Int} (h : (Lit.int .u8 x).wf = true) : 0 ≤ x ∧ x ≤ 255 := by
  simp [Lit.wf, IntKind.min, IntKind.max, IntKind.bits, IntKind.signed] at h; omega

theorem between_eq (a lo hi : Int) : spec_l01Between.f a lo hi = some (decide (lo ≤ a ∧ a ≤ hi)) := by
  unfold spec_l01Between.f
  by_cases h : a ≥ lo
  · rw [if_pos h]; congr 1; simp; omega
  · rw [if_neg h]; congr 1; simp; omega

theorem within_eq (a lo hi : Int) : impl_within.f a lo hi = some (decide (lo ≤ a ∧ a ≤ hi)) := by
  unfold impl_within.f
  by_cases h : a ≥ lo
  · rw [if_pos h]; congr 1; simp; omega
  · rw [if_neg h]; congr 1; simp; omega

def inR (lo hi : Int) (l : List Int) : Bool := l.all fun x => decide (lo ≤ x ∧ x ≤ hi)
theorem inR_nil (lo hi : Int) : inR lo hi [] = true := rfl
theorem inR_cons (lo hi x : Int) (l : List Int) : inR lo hi (x :: l) = (decide (lo ≤ x ∧ x ≤ hi) && inR lo hi l) := rfl
theorem inR_at {lo hi : Int} {l : List Int} (h : inR lo hi l = true) (i : Nat) (hi' : i < l.length) : lo ≤ l[i] ∧ l[i] ≤ hi := by
  unfold inR at h; rw [List.all_eq_true] at h; simpa using h l[i] (List.getElem_mem hi')

theorem allWithin_loop (l : List Int) (lo hi : Int) (hl : l.length ≤ 4611686018427387904) : ∀ (d k i : Nat), i + d = l.length → d < k → impl_allWithin.l0 k lo hi l (l.length : Int) (i : Int) = some (inR lo hi (l.drop i)) := by
  intro d
  induction d with
  | zero =>
    intro k i h1 hk
    obtain ⟨k, rfl⟩ : ∃ m, k = m + 1 := ⟨k - 1, by omega⟩
    rw [impl_allWithin.l0, if_neg (by omega), List.drop_eq_nil_of_le (by omega), inR_nil]
  | succ d ih =>
    intro k i h1 hk
    obtain ⟨k, rfl⟩ : ∃ m, k = m + 1 := ⟨k - 1, by omega⟩
    rw [impl_allWithin.l0, if_pos (by omega), if_pos (by omega), if_pos (by omega), within_eq, rd_nat l i (by omega), wsucc (by omega), ih k (i + 1) (by omega) (by omega), drop_at l i (by omega), inR_cons]
    simp only [Option.bind_some]
    by_cases h : lo ≤ l[i] ∧ l[i] ≤ hi <;> simp [h]
theorem allWithin_eq (l : List Int) (lo hi : Int) (hl : l.length ≤ 4611686018427387904) (k : Nat) (hk : l.length < k) : impl_allWithin.f k l lo hi = some (inR lo hi l) := by
  unfold impl_allWithin.f
  exact allWithin_loop l lo hi hl l.length k 0 (by omega) hk

def pw (x : Int) : Int := if x > 0 then shl .i64 1 (wrap64 (16 - x)) else 0
theorem pw_bd {x : Int} (h0 : 0 ≤ x) (h1 : x ≤ 16) : 0 ≤ pw x ∧ pw x ≤ 32768 := by
  have hc : x = 0 ∨ x = 1 ∨ x = 2 ∨ x = 3 ∨ x = 4 ∨ x = 5 ∨ x = 6 ∨ x = 7 ∨ x = 8 ∨ x = 9 ∨ x = 10 ∨ x = 11 ∨ x = 12 ∨ x = 13 ∨ x = 14 ∨ x = 15 ∨ x = 16 := by omega
  rcases hc with rfl | rfl | rfl | rfl | rfl | rfl | rfl | rfl | rfl | rfl | rfl | rfl | rfl | rfl | rfl | rfl | rfl <;> decide +kernel
def pwSum : List Int → Int
  | [] => 0
  | x :: xs => pw x + pwSum xs
def lensB (l : List Int) : Bool := decide ((l.length : Int) ≤ 256) && (inR 0 16 l && decide (1 ≤ pwSum l ∧ pwSum l ≤ 65536))
theorem specLens_loop (l : List Int) (hl : l.length ≤ 256) : ∀ (d k i : Nat) (s : Int), i + d = l.length → d < k → 0 ≤ s → s ≤ 32768 * (i : Int) → spec_LensOk.l0 k l s (i : Int) = some (inR 0 16 (l.drop i) && decide (1 ≤ s + pwSum (l.drop i) ∧ s + pwSum (l.drop i) ≤ 65536)) := by
  intro d
  induction d with
  | zero =>
    intro k i s h1 hk h0 hs
    obtain ⟨k, rfl⟩ : ∃ m, k = m + 1 := ⟨k - 1, by omega⟩
    rw [spec_LensOk.l0, if_neg (by omega), List.drop_eq_nil_of_le (by omega)]
    simp only [inR_nil, pwSum, Int.add_zero, Bool.true_and]
    by_cases h : s > 0
    · rw [if_pos h]; congr 1; simp; omega
    · rw [if_neg h]; congr 1; simp; omega
  | succ d ih =>
    intro k i s h1 hk h0 hs
    obtain ⟨k, rfl⟩ : ∃ m, k = m + 1 := ⟨k - 1, by omega⟩
    rw [spec_LensOk.l0, if_pos (by omega), if_pos (by omega), rd_nat l i (by omega), between_eq, Option.bind_some, wsucc (by omega), drop_at l i (by omega), inR_cons, pwSum]
    by_cases h : 0 ≤ l[i] ∧ l[i] ≤ 16
    · have hp := pw_bd h.1 h.2
      rw [if_pos (by simpa using h), decide_eq_true h, Bool.true_and]
      by_cases hz : l[i] > 0
      · have e : pw l[i] = shl .i64 1 (wrap64 (16 - l[i])) := if_pos hz
        rw [if_pos hz, ← e, if_pos (by rw [w64 (by omega) (by omega)]; omega), w64 (by omega) (by omega), ih k (i + 1) _ (by omega) (by omega) (by omega) (by omega), Int.add_assoc]
      · have e : pw l[i] = 0 := if_neg hz
        rw [if_neg hz, ih k (i + 1) _ (by omega) (by omega) (by omega) (by omega), e, Int.zero_add]
    · rw [if_neg (by simpa using h), decide_eq_false h, Bool.false_and]
      rfl
theorem specLens_eq (l : List Int) (k : Nat) (hk : 256 < k) : spec_LensOk.f k l = some (lensB l) := by
  unfold spec_LensOk.f lensB
  by_cases h : (l.length : Int) > 256
  · rw [if_pos h, decide_eq_false (by omega), Bool.false_and]
  · rw [if_neg h, decide_eq_true (by omega), Bool.true_and]
    have := specLens_loop l (by omega) l.length k 0 0 (by omega) (by omega) (by omega) (by omega)
    simpa using this
theorem implLens_loop (l : List Int) (hl : l.length ≤ 256) (hr : inR 0 16 l = true) : ∀ (d k i : Nat) (s : Int), i + d = l.length → d < k → 0 ≤ s → s ≤ 32768 * (i : Int) → impl_LensOk.l0 k s l (l.length : Int) (i : Int) = some (decide (1 ≤ s + pwSum (l.drop i) ∧ s + pwSum (l.drop i) ≤ 65536)) := by
  intro d
  induction d with
  | zero =>
    intro k i s h1 hk h0 hs
    obtain ⟨k, rfl⟩ : ∃ m, k = m + 1 := ⟨k - 1, by omega⟩
    rw [impl_LensOk.l0, if_neg (by omega), List.drop_eq_nil_of_le (by omega), within_eq]
    simp only [pwSum, Int.add_zero, Option.bind_some]
  | succ d ih =>
    intro k i s h1 hk h0 hs
    obtain ⟨k, rfl⟩ : ∃ m, k = m + 1 := ⟨k - 1, by omega⟩
    have h := inR_at hr i (by omega)
    have hp := pw_bd h.1 h.2
    rw [impl_LensOk.l0, if_pos (by omega), if_pos (by omega), if_pos (by omega), rd_nat l i (by omega), wsucc (by omega), drop_at l i (by omega), pwSum]
    by_cases hz : l[i] > 0
    · have e : pw l[i] = shl .i64 1 (wrap64 (16 - l[i])) := if_pos hz
      rw [if_pos hz, ← e, if_pos (by rw [w64 (by omega) (by omega)]; omega), w64 (by omega) (by omega), ih k (i + 1) _ (by omega) (by omega) (by omega) (by omega), Int.add_assoc]
    · have e : pw l[i] = 0 := if_neg hz
      rw [if_neg hz, ih k (i + 1) _ (by omega) (by omega) (by omega) (by omega), e, Int.zero_add]
theorem implLens_eq (l : List Int) (k : Nat) (hk : 300 < k) : impl_LensOk.f k l = some (lensB l) := by
  obtain ⟨k, rfl⟩ : ∃ m, k = m + 1 := ⟨k - 1, by omega⟩
  unfold impl_LensOk.f lensB
  by_cases h : (l.length : Int) > 256
  · rw [if_pos h, impl_LensOk.j0, decide_eq_false (by omega), Bool.false_and]; rfl
  · rw [if_neg h, decide_eq_true (by omega), Bool.true_and, allWithin_eq l 0 16 (by omega) _ (by omega), Option.bind_some, impl_LensOk.j0]
    by_cases hr : inR 0 16 l = true
    · have := implLens_loop l (by omega) hr l.length k 0 0 (by omega) (by omega) (by omega) (by omega)
      rw [hr]
      simpa using this
    · have hr : inR 0 16 l = false := by simpa using hr
      rw [hr]; rfl

def anyPos (l : List Int) : Bool := l.any fun x => decide (x > 0)
def freqsB (l : List Int) : Bool := decide ((l.length : Int) ≤ 256) && (inR 0 1000000 l && anyPos l)
theorem specFreqs_loop (l : List Int) (hl : l.length ≤ 256) : ∀ (d k i : Nat) (b : Bool), i + d = l.length → d < k → spec_l08Freqs.l0 k l b (i : Int) = some (inR 0 1000000 (l.drop i) && (b || anyPos (l.drop i))) := by
  intro d
  induction d with
  | zero =>
    intro k i b h1 hk
    obtain ⟨k, rfl⟩ : ∃ m, k = m + 1 := ⟨k - 1, by omega⟩
    rw [spec_l08Freqs.l0, if_neg (by omega), List.drop_eq_nil_of_le (by omega), inR_nil]
    simp [anyPos]
  | succ d ih =>
    intro k i b h1 hk
    obtain ⟨k, rfl⟩ : ∃ m, k = m + 1 := ⟨k - 1, by omega⟩
    rw [spec_l08Freqs.l0, if_pos (by omega), if_pos (by omega), between_eq, rd_nat l i (by omega), Option.bind_some, wsucc (by omega), ih k (i + 1) true (by omega) (by omega), ih k (i + 1) _ (by omega) (by omega), drop_at l i (by omega), inR_cons]
    have ha : anyPos (l[i] :: l.drop (i + 1)) = (decide (l[i] > 0) || anyPos (l.drop (i + 1))) := rfl
    rw [ha]
    by_cases h : 0 ≤ l[i] ∧ l[i] ≤ 1000000
    · rw [if_pos (by simpa using h), decide_eq_true h, Bool.true_and]
      cases b <;> simp
    · rw [if_neg (by simpa using h), decide_eq_false h, Bool.false_and, Bool.false_and]
theorem specFreqs_eq (l : List Int) (k : Nat) (hk : 300 < k) : spec_l08Freqs.f k l = some (freqsB l) := by
  unfold spec_l08Freqs.f freqsB
  by_cases h : (l.length : Int) > 256
  · rw [if_pos h, decide_eq_false (by omega)]; rfl
  · rw [if_neg h, decide_eq_true (by omega)]
    have := specFreqs_loop l (by omega) l.length k 0 false (by omega) (by omega)
    simpa using this
theorem implFreqs_eq (l : List Int) (k : Nat) (hk : 300 < k) : impl_areFreqs.f k l = some (freqsB l) := by
  unfold impl_areFreqs.f freqsB slices_Pos93.f
  by_cases h : (l.length : Int) ≤ 256
  · rw [if_pos h, allWithin_eq l _ _ (by omega) k (by omega), Option.bind_some, decide_eq_true h, Bool.true_and]
    by_cases h2 : inR 0 1000000 l = true
    · rw [if_pos h2, h2]; simp [anyPos]
    · rw [if_neg h2]; simp [h2]
  · rw [if_neg h, decide_eq_false h]; rfl
def costL : List Int → List Int → Int → Int
  | f :: fs, l :: ls, s => if f > 0 ∧ l = 0 then -1 else costL fs ls (wrap64 (s + wrap64 (f * l)))
  | _, _, s => s
theorem specCost_loop (a b : List Int) (hl : a.length = b.length) (ha : a.length ≤ 1000) : ∀ (d k i : Nat) (s : Int), i + d = a.length → d < k → spec_CostOf.l0 k a b s (i : Int) = some (costL (a.drop i) (b.drop i) s) := by
  intro d
  induction d with
  | zero =>
    intro k i s h1 hk
    obtain ⟨k, rfl⟩ : ∃ m, k = m + 1 := ⟨k - 1, by omega⟩
    rw [spec_CostOf.l0, if_neg (by omega), List.drop_eq_nil_of_le (by omega), List.drop_eq_nil_of_le (by omega), costL]
    intros; simp_all
  | succ d ih =>
    intro k i s h1 hk
    obtain ⟨k, rfl⟩ : ∃ m, k = m + 1 := ⟨k - 1, by omega⟩
    rw [spec_CostOf.l0, if_pos (by omega), if_pos (by omega), rd_nat a i (by omega), rd_nat b i (by omega), wsucc (by omega), ih k (i + 1) _ (by omega) (by omega), drop_at a i (by omega), drop_at b i (by omega), costL, if_pos (show (i : Int) < (b.length : Int) by omega), if_pos (show (i : Int) < (b.length : Int) by omega)]
    by_cases h : a[i] > 0
    · rw [if_pos h]
      by_cases h2 : b[i] = 0
      · rw [if_pos h2, if_pos ⟨h, h2⟩]
      · rw [if_neg h2, if_neg (fun h' => h2 h'.2)]
    · rw [if_neg h, if_neg (fun h' => h h'.1)]
theorem implCost_loop (a b : List Int) (hl : a.length = b.length) (ha : a.length ≤ 1000) : ∀ (d k i : Nat) (s : Int), i + d = a.length → d < k → impl_CostOf.l0 k b s a (a.length : Int) (i : Int) = some (costL (a.drop i) (b.drop i) s) := by
  intro d
  induction d with
  | zero =>
    intro k i s h1 hk
    obtain ⟨k, rfl⟩ : ∃ m, k = m + 1 := ⟨k - 1, by omega⟩
    rw [impl_CostOf.l0, if_neg (by omega), List.drop_eq_nil_of_le (by omega), List.drop_eq_nil_of_le (by omega), costL]
    intros; simp_all
  | succ d ih =>
    intro k i s h1 hk
    obtain ⟨k, rfl⟩ : ∃ m, k = m + 1 := ⟨k - 1, by omega⟩
    rw [impl_CostOf.l0, if_pos (by omega), if_pos (by omega), if_pos (by omega), rd_nat a i (by omega), rd_nat b i (by omega), wsucc (by omega), ih k (i + 1) _ (by omega) (by omega), drop_at a i (by omega), drop_at b i (by omega), costL, if_pos (show (i : Int) < (b.length : Int) by omega), if_pos (show (i : Int) < (b.length : Int) by omega)]
    by_cases h : a[i] > 0
    · rw [if_pos h]
      by_cases h2 : b[i] = 0
      · rw [if_pos h2, if_pos ⟨h, h2⟩]
      · rw [if_neg h2, if_neg (fun h' => h2 h'.2)]
    · rw [if_neg h, if_neg (fun h' => h h'.1)]

theorem toIntS_loop (l : List Int) (hl : l.length ≤ 4611686018427387904) : ∀ (d k i : Nat) (x : List Int), i + d = l.length → d < k → x.length = l.length → (∀ j, j < i → x[j]? = l[j]?) → laws_toIntS.l0 k l x (i : Int) = some l := by
  intro d
  induction d with
  | zero =>
    intro k i x hi hk hx he
    obtain ⟨k, rfl⟩ : ∃ m, k = m + 1 := ⟨k - 1, by omega⟩
    rw [laws_toIntS.l0, if_neg (by omega)]
    congr 1
    apply List.ext_getElem? 
    intro j
    by_cases hj : j < i
    · exact he j hj
    · rw [List.getElem?_eq_none (by omega), List.getElem?_eq_none (by omega)]
  | succ d ih =>
    intro k i x hi hk hx he
    obtain ⟨k, rfl⟩ : ∃ m, k = m + 1 := ⟨k - 1, by omega⟩
    rw [laws_toIntS.l0, if_pos (by omega), if_pos (by omega), if_pos (by omega), wsucc (by omega)]
    refine ih k (i + 1) _ (by omega) (by omega) (by simpa using hx) ?_
    intro j hj
    rw [rd_nat l i (by omega), Int.toNat_natCast, List.getElem?_set]
    by_cases e : i = j
    · subst e; simp [show i < x.length by omega, List.getElem?_eq_getElem (show i < l.length by omega)]
    · rw [if_neg e]; exact he j (by omega)
theorem toIntS_eq (l : List Int) (hl : l.length ≤ 17592186044416) (k : Nat) (hk : l.length < k) : laws_toIntS.f k l = some l := by
  unfold laws_toIntS.f
  rw [if_pos (by omega), if_pos (by omega)]
  exact toIntS_loop l (by omega) l.length k 0 _ (by omega) hk (by simp) (by intro j hj; omega)

theorem eqIntS_loop (l : List Int) (hl : l.length ≤ 4611686018427387904) : ∀ (d k i : Nat), i + d = l.length → d < k → laws_eqIntS.l0 k l l (i : Int) = some true := by
  intro d
  induction d with
  | zero =>
    intro k i hi hk
    obtain ⟨k, rfl⟩ : ∃ m, k = m + 1 := ⟨k - 1, by omega⟩
    rw [laws_eqIntS.l0, if_neg (by omega)]
  | succ d ih =>
    intro k i hi hk
    obtain ⟨k, rfl⟩ : ∃ m, k = m + 1 := ⟨k - 1, by omega⟩
    rw [laws_eqIntS.l0, if_pos (by omega), if_pos (by omega), if_pos (by omega), if_pos rfl, wsucc (by omega)]
    exact ih k (i + 1) (by omega) (by omega)
theorem eqIntS_refl (l : List Int) (hl : l.length ≤ 4611686018427387904) (k : Nat) (hk : l.length < k) : laws_eqIntS.f k l l = some true := by
  unfold laws_eqIntS.f
  rw [if_pos rfl]
  exact eqIntS_loop l hl l.length k 0 (by omega) hk

def costR (a b : List Int) : Int := if (freqsB a && lensB b && decide (a.length = b.length)) = true then costL a b 0 else -1
theorem freqsB_len {a : List Int} (h : freqsB a = true) : a.length ≤ 256 := by
  simp [freqsB] at h; omega
theorem specCost_eq (a b : List Int) (k : Nat) (hk : 400 < k) : spec_CostOf.f k a b = some (costR a b) := by
  obtain ⟨k, rfl⟩ : ∃ m, k = m + 1 := ⟨k - 1, by omega⟩
  unfold spec_CostOf.f costR
  rw [specFreqs_eq a _ (by omega), Option.bind_some]
  by_cases h1 : freqsB a = true
  · rw [if_pos h1, specLens_eq b _ (by omega), Option.bind_some, h1]
    have h3 := freqsB_len h1
    by_cases h2 : lensB b = true
    · rw [if_pos h2, h2]
      by_cases h : a.length = b.length
      · have e : ((a.length : Int) != (b.length : Int)) = false := by simp [h]
        rw [e, spec_CostOf.j0, if_neg (by decide), decide_eq_true h, if_pos (by decide)]
        exact specCost_loop a b h (by omega) a.length k 0 0 (by omega) (by omega)
      · have e : ((a.length : Int) != (b.length : Int)) = true := by simp; omega
        rw [e, spec_CostOf.j0, if_pos rfl, decide_eq_false h, if_neg (by decide)]
    · rw [if_neg h2, spec_CostOf.j0, if_pos rfl, if_neg (by simp [h2])]
  · rw [if_neg h1, spec_CostOf.j0, if_pos rfl, if_neg (by simp [h1])]
theorem implCost_eq (a b : List Int) (k : Nat) (hk : 400 < k) : impl_CostOf.f k a b = some (costR a b) := by
  obtain ⟨k, rfl⟩ : ∃ m, k = m + 1 := ⟨k - 1, by omega⟩
  unfold impl_CostOf.f costR
  rw [implFreqs_eq a _ (by omega), Option.bind_some]
  by_cases h1 : freqsB a = true
  · rw [if_pos h1, implLens_eq b _ (by omega), Option.bind_some, h1]
    have h3 := freqsB_len h1
    by_cases h2 : lensB b = true
    · rw [if_pos h2, h2]
      by_cases h : a.length = b.length
      · have e : ((a.length : Int) != (b.length : Int)) = false := by simp [h]
        rw [e, impl_CostOf.j0, if_neg (by decide), decide_eq_true h, if_pos (by decide)]
        exact implCost_loop a b h (by omega) a.length k 0 0 (by omega) (by omega)
      · have e : ((a.length : Int) != (b.length : Int)) = true := by simp; omega
        rw [e, impl_CostOf.j0, if_pos rfl, decide_eq_false h, if_neg (by decide)]
    · rw [if_neg h2, impl_CostOf.j0, if_pos rfl, if_neg (by simp [h2])]
  · rw [if_neg h1, impl_CostOf.j0, if_pos rfl, if_neg (by simp [h1])]
theorem FnExactCostOf : laws_FnExactCostOf.Pure := by
  intro l0 l1 hm0 hr0 hw0 hm1 hr1 hw1
  obtain ⟨K, hK⟩ : ∃ K, K = l0.length + l1.length + 500 := ⟨_, rfl⟩
  refine ⟨K, ?_⟩
  unfold laws_FnExactCostOf.f
  by_cases h0 : (l0.length : Int) > 1048576
  · rw [if_pos h0]
  rw [if_neg h0]
  by_cases h1 : (l1.length : Int) > 1048576
  · rw [if_pos h1]
  rw [if_neg h1]
  have e1 := toIntS_eq l0 (by omega) K (by omega)
  have e2 := toIntS_eq l1 (by omega) K (by omega)
  have e3 := specCost_eq l0 l1 K (by omega)
  have e4 := implCost_eq l0 l1 K (by omega)
  have e5 := eqIntS_refl l0 (by omega) K (by omega)
  have e6 := eqIntS_refl l1 (by omega) K (by omega)
  simp only [e1, e2, e3, e4, e5, e6, Option.bind_some, if_true]

end Go.Proofs.Ytbhfimbikooccaa.Pure
