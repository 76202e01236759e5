/- The pure statement of the law FnExactFieldsOk, for every input that its guards let in. -/
import Derived.Test.YtjogepmenphaeaaPFnExactFieldsOkx2
import Derived.Test.YtjogepmenphaeaaWSized
-- The printed row names this word without its seat: the same fact under that name.
namespace Go.Proofs.PrintWords
theorem sized_ints {H : Type} {enc : TypeId × Value → H} {P : Program} {W : World} {base : Nat} {spare : Nat → Bool} {held : Bool} {t e : TypeId} {k : IntKind} {a : Option Addr} {len cap : Nat} {d : DataW H} {ps : List MemPlace} {ts : List TypeId} {ds : List (DataW H)} {j : Nat} (hsz : (DataW.weightsEach P ts ds).all (· ≤ reachBytes) = true) (ht : ts[j]? = some t) (hd : ds[j]? = some d) (hu : P.underlying t = some (.slice e)) (he : P.underlying e = some (.int k)) (hc : P.cellsOf e = 1) {B : Nat} (hB : P.bytesOf e = B) (h : DataW.Trod enc P W base spare held t (.slice a len cap) d ps) : len * B ≤ 140737488351232 := Go.Proofs.YtjogepmenphaeaaW.PrintWords.sized_ints hsz ht hd hu he hc hB h
end Go.Proofs.PrintWords
namespace Go.Proofs.Ytjogepmenphaeaa.Pure
open Go.RowKit Go.Proofs.Ytjogepmenphaeaa.PFnExactFieldsOk Go.Proofs.YtjogepmenphaeaaW.PrintWords Go.Proofs.YtjogepmenphaeaaW.PrintLast Go.Proofs.YtjogepmenphaeaaW.PrintMore
set_option linter.unusedVariables false
set_option linter.unusedSimpArgs false
set_option maxRecDepth 4000

theorem w64 {x : Int} (h1 : -9223372036854775808 ≤ x) (h2 : x ≤ 9223372036854775807) : wrap64 x = x := by unfold wrap64; omega
theorem wsucc {i : Nat} (h : i ≤ 4611686018427387904) : wrap64 ((i : Int) + 1) = ((i + 1 : Nat) : Int) := by unfold wrap64; omega
theorem rd_nat (l : List Int) (i : Nat) (h : i < l.length) : rd l (i : Int) = l[i] := by simp [rd, List.getD_eq_getElem?_getD, h]
theorem drop_at {α : Type} (l : List α) (i : Nat) (h : i < l.length) : l.drop i = l[i] :: l.drop (i + 1) := List.drop_eq_getElem_cons h
theorem wf64 {x : Int} (h : (Lit.int .i64 x).wf = true) : -9223372036854775808 ≤ x ∧ x ≤ 9223372036854775807 := by
  simp [Lit.wf, IntKind.min, IntKind.max, IntKind.bits, IntKind.signed] at h; omega
theorem wfu8 {x : Int} (h : (Lit.int .u8 x).wf = true) : 0 ≤ x ∧ x ≤ 255 := by
  simp [Lit.wf, IntKind.min, IntKind.max, IntKind.bits, IntKind.signed] at h; omega

theorem between_eq (a lo hi : Int) : spec_l01Between.f a lo hi = some (decide (lo ≤ a ∧ a ≤ hi)) := by
  unfold spec_l01Between.f
  by_cases h : a ≥ lo
  · rw [if_pos h]; congr 1; simp; omega
  · rw [if_neg h]; congr 1; simp; omega

theorem within_eq (a lo hi : Int) : impl_within.f a lo hi = some (decide (lo ≤ a ∧ a ≤ hi)) := by
  unfold impl_within.f
  by_cases h : a ≥ lo
  · rw [if_pos h]; congr 1; simp; omega
  · rw [if_neg h]; congr 1; simp; omega

def powM (n : Int) : Int := wrap64 (shl .i64 1 n - 1)
def okF (x : S53) : Bool := decide (0 ≤ x.f0 ∧ x.f0 ≤ 16) && decide (0 ≤ x.f1 ∧ x.f1 ≤ powM x.f0)
def sumF : List S53 → Int
  | [] => 0
  | x :: xs => x.f0 + sumF xs
def fieldsB (l : List S53) : Bool := l.all okF && decide (sumF l ≤ 480000)
theorem sumF_nn : ∀ l : List S53, l.all okF = true → 0 ≤ sumF l ∧ sumF l ≤ 16 * (l.length : Int)
  | [], _ => by simp [sumF]
  | x :: xs, h => by
    rw [List.all_cons, Bool.and_eq_true] at h
    have := sumF_nn xs h.2
    have h1 := h.1
    simp [okF] at h1
    simp only [sumF, List.length_cons]
    omega
theorem rdF_nat (l : List S53) (i : Nat) (h : i < l.length) : rd_T53 l (i : Int) = l[i] := by simp [rd_T53, List.getD_eq_getElem?_getD, h]
theorem specFields_loop (l : List S53) (hl : l.length ≤ 1048576) : ∀ (d k i : Nat) (s : Int), i + d = l.length → 2 * d < k → 0 ≤ s → s ≤ 480000 → spec_FieldsOk.l0 k l s (i : Int) = some ((l.drop i).all okF && decide (s + sumF (l.drop i) ≤ 480000)) := by
  intro d
  induction d with
  | zero =>
    intro k i s h1 hk h0 hs
    obtain ⟨k, rfl⟩ : ∃ m, k = m + 1 := ⟨k - 1, by omega⟩
    rw [spec_FieldsOk.l0, if_neg (by omega), List.drop_eq_nil_of_le (by omega)]
    simp [sumF, hs]
  | succ d ih =>
    intro k i s h1 hk h0 hs
    obtain ⟨k, rfl⟩ : ∃ m, k = m + 2 := ⟨k - 2, by omega⟩
    rw [spec_FieldsOk.l0, if_pos (by omega), if_pos (by omega), rdF_nat l i (by omega), between_eq, Option.bind_some, drop_at l i (by omega), List.all_cons, okF, sumF]
    by_cases h : 0 ≤ l[i].f0 ∧ l[i].f0 ≤ 16
    · rw [decide_eq_true h, if_pos rfl, if_pos h.1, between_eq, Option.bind_some, Bool.true_and]
      by_cases h2 : 0 ≤ l[i].f1 ∧ l[i].f1 ≤ powM l[i].f0
      · have h2' : 0 ≤ l[i].f1 ∧ l[i].f1 ≤ wrap64 (shl .i64 1 l[i].f0 - 1) := h2
        rw [decide_eq_true h2', decide_eq_true h2, Bool.true_and, spec_FieldsOk.j1, if_neg (by decide), w64 (by omega) (by omega)]
        by_cases h3 : s + l[i].f0 > 480000
        · rw [if_pos h3]
          by_cases ha : (l.drop (i + 1)).all okF = true
          · have := sumF_nn _ ha
            rw [ha, decide_eq_false (by omega)]; rfl
          · have ha : (l.drop (i + 1)).all okF = false := by simpa using ha
            rw [ha, Bool.false_and]
        · rw [if_neg h3, wsucc (by omega), ih k (i + 1) _ (by omega) (by omega) (by omega) (by omega), Int.add_assoc]
      · have h2' : ¬ (0 ≤ l[i].f1 ∧ l[i].f1 ≤ wrap64 (shl .i64 1 l[i].f0 - 1)) := h2
        rw [decide_eq_false h2', decide_eq_false h2, spec_FieldsOk.j1, if_pos (by rfl), Bool.false_and, Bool.false_and]
    · rw [decide_eq_false h, if_neg (by decide), spec_FieldsOk.j1, if_pos rfl, Bool.false_and, Bool.false_and, Bool.false_and]
theorem specFields_eq (l : List S53) (hl : l.length ≤ 1048576) (k : Nat) (hk : 2 * l.length < k) : spec_FieldsOk.f k l = some (fieldsB l) := by
  unfold spec_FieldsOk.f fieldsB
  have := specFields_loop l hl l.length k 0 0 (by omega) hk (by omega) (by omega)
  simpa using this
theorem implFields_loop (l : List S53) (hl : l.length ≤ 1048576) : ∀ (d k i : Nat) (s : Int), i + d = l.length → d < k → 0 ≤ s → s ≤ 16 * (i : Int) → impl_FieldsOk.l0 k s l (l.length : Int) (i : Int) = some ((l.drop i).all okF && decide (s + sumF (l.drop i) ≤ 480000)) := by
  intro d
  induction d with
  | zero =>
    intro k i s h1 hk h0 hs
    obtain ⟨k, rfl⟩ : ∃ m, k = m + 1 := ⟨k - 1, by omega⟩
    rw [impl_FieldsOk.l0, if_neg (by omega), List.drop_eq_nil_of_le (by omega)]
    simp [sumF]
  | succ d ih =>
    intro k i s h1 hk h0 hs
    obtain ⟨k, rfl⟩ : ∃ m, k = m + 1 := ⟨k - 1, by omega⟩
    rw [impl_FieldsOk.l0, if_pos (by omega), if_pos (by omega), if_pos (by omega), rdF_nat l i (by omega), within_eq, Option.bind_some, drop_at l i (by omega), List.all_cons, okF, sumF]
    by_cases h : 0 ≤ l[i].f0 ∧ l[i].f0 ≤ 16
    · rw [decide_eq_true h, if_pos rfl, if_pos h.1, within_eq, Option.bind_some, Bool.true_and]
      by_cases h2 : 0 ≤ l[i].f1 ∧ l[i].f1 ≤ powM l[i].f0
      · have h2' : 0 ≤ l[i].f1 ∧ l[i].f1 ≤ wrap64 (shl .i64 1 l[i].f0 - 1) := h2
        rw [decide_eq_true h2', decide_eq_true h2, Bool.true_and, if_pos rfl, w64 (by omega) (by omega), wsucc (by omega), ih k (i + 1) _ (by omega) (by omega) (by omega) (by omega), Int.add_assoc]
      · have h2' : ¬ (0 ≤ l[i].f1 ∧ l[i].f1 ≤ wrap64 (shl .i64 1 l[i].f0 - 1)) := h2
        rw [decide_eq_false h2', decide_eq_false h2, if_neg (by decide), Bool.false_and, Bool.false_and]
    · rw [decide_eq_false h, if_neg (by decide), Bool.false_and, Bool.false_and, Bool.false_and]
theorem implFields_eq (l : List S53) (hl : l.length ≤ 1048576) (k : Nat) (hk : l.length < k) : impl_FieldsOk.f k l = some (fieldsB l) := by
  unfold impl_FieldsOk.f fieldsB
  have := implFields_loop l hl l.length k 0 0 (by omega) hk (by omega) (by omega)
  simpa using this

def toF (x : S55) : S53 := ⟨x.f0, x.f1⟩
theorem toFieldS_loop (l : List S55) (hl : l.length ≤ 1048576) : ∀ (d k i : Nat) (x : List S53), i + d = l.length → d < k → x.length = l.length → (∀ j, j < i → x[j]? = (l[j]?).map toF) → laws_toFieldS.l0 k l x (i : Int) = some (l.map toF) := by
  intro d
  induction d with
  | zero =>
    intro k i x hi hk hx he
    obtain ⟨k, rfl⟩ : ∃ m, k = m + 1 := ⟨k - 1, by omega⟩
    rw [laws_toFieldS.l0, if_neg (by omega)]
    congr 1
    apply List.ext_getElem?
    intro j
    by_cases hj : j < i
    · rw [he j hj, List.getElem?_map]
    · rw [List.getElem?_eq_none (by omega), List.getElem?_eq_none (by simp; omega)]
  | succ d ih =>
    intro k i x hi hk hx he
    obtain ⟨k, rfl⟩ : ∃ m, k = m + 1 := ⟨k - 1, by omega⟩
    have hrd : rd_T55 l (i : Int) = l[i] := by simp [rd_T55, List.getD_eq_getElem?_getD, show i < l.length by omega]
    rw [laws_toFieldS.l0, if_pos (by omega), if_pos (by omega), hrd, laws_toField.f, Option.bind_some, if_pos (by omega), wsucc (by omega)]
    refine ih k (i + 1) _ (by omega) (by omega) (by simpa using hx) ?_
    intro j hj
    rw [Int.toNat_natCast, List.getElem?_set]
    by_cases e : i = j
    · subst e; simp [show i < x.length by omega, List.getElem?_eq_getElem (show i < l.length by omega), toF]
    · rw [if_neg e]; exact he j (by omega)
theorem toFieldS_eq (l : List S55) (hl : l.length ≤ 1048576) (k : Nat) (hk : l.length < k) : laws_toFieldS.f k l = some (l.map toF) := by
  unfold laws_toFieldS.f
  rw [if_pos (by omega), if_pos (by omega)]
  exact toFieldS_loop l hl l.length k 0 _ (by omega) hk (by simp) (by intro j hj; omega)

theorem eqField_refl (a0 a1 : Int) : laws_eqField.f a0 a1 a0 a1 = some true := by simp [laws_eqField.f]
theorem eqFieldS_loop (l : List S53) (hl : l.length ≤ 4611686018427387904) : ∀ (d k i : Nat), i + d = l.length → d < k → laws_eqFieldS.l0 k l l (i : Int) = some true := by
  intro d
  induction d with
  | zero =>
    intro k i hi hk
    obtain ⟨k, rfl⟩ : ∃ m, k = m + 1 := ⟨k - 1, by omega⟩
    rw [laws_eqFieldS.l0, if_neg (by omega)]
  | succ d ih =>
    intro k i hi hk
    obtain ⟨k, rfl⟩ : ∃ m, k = m + 1 := ⟨k - 1, by omega⟩
    rw [laws_eqFieldS.l0, if_pos (by omega), if_pos (by omega), if_pos (by omega), eqField_refl, Option.bind_some, if_pos rfl, wsucc (by omega)]
    exact ih k (i + 1) (by omega) (by omega)
theorem eqFieldS_refl (l : List S53) (hl : l.length ≤ 4611686018427387904) (k : Nat) (hk : l.length < k) : laws_eqFieldS.f k l l = some true := by
  unfold laws_eqFieldS.f
  rw [if_pos rfl]
  exact eqFieldS_loop l hl l.length k 0 (by omega) hk
def marksField (m : Int) (n : Nat) : List S53 := (List.range n).map fun j : Nat => ⟨(m + 2 * (j : Int)), (m + 2 * (j : Int)) + 1⟩
theorem marksField_len (m : Int) (n : Nat) : (marksField m n).length = n := by simp [marksField]
theorem rdField_set (x : List S53) (i : Nat) (v : S53) (h : i < x.length) : rd_T53 (x.set (i : Int).toNat v) (i : Int) = v := by
  simp [rd_T53, h]
theorem rdField_nat (l : List S53) (i : Nat) (h : i < l.length) : rd_T53 l (i : Int) = l[i] := by simp [rd_T53, List.getD_eq_getElem?_getD, h]
theorem FnExactFieldsOk (l : List S55) (hm : l.length ≤ maxLen) (hQ : ∀ v ∈ l, (Lit.int .i64 v.f0).wf = true ∧ (Lit.int .i64 v.f1).wf = true) : ∃ k, laws_FnExactFieldsOk.f k l = some true := by
  unfold maxLen at hm
  obtain ⟨K, hK⟩ : ∃ K, K = 2 * l.length + 100 := ⟨_, rfl⟩
  refine ⟨K, ?_⟩
  unfold laws_FnExactFieldsOk.f laws_szFieldS.f
  rw [w64 (by omega) (by omega)]
  by_cases h : 1048576 - (l.length : Int) < 0
  · rw [if_pos h]; rfl
  · rw [if_neg h, Option.bind_some, if_neg h]
    have hml : (l.map toF).length = l.length := by simp
    have e1 := toFieldS_eq l (by omega) K (by omega)
    have e2 := specFields_eq (l.map toF) (by omega) K (by omega)
    have e3 := implFields_eq (l.map toF) (by omega) K (by omega)
    have e4 := eqFieldS_refl (l.map toF) (by omega) K (by omega)
    simp only [e1, e2, e3, e4, Option.bind_some]
    simp

end Go.Proofs.Ytjogepmenphaeaa.Pure
