/- The pure statement of the law FnExactUnstuff, for every input that its guards let in. -/
import Derived.Test.YtjogepmenphaeaaPFnExactUnstuffx2
import Derived.Test.YtjogepmenphaeaaWSized
-- The printed row names this word without its seat: the same fact under that name.
namespace Go.Proofs.PrintWords
theorem sized_ints {H : Type} {enc : TypeId × Value → H} {P : Program} {W : World} {base : Nat} {spare : Nat → Bool} {held : Bool} {t e : TypeId} {k : IntKind} {a : Option Addr} {len cap : Nat} {d : DataW H} {ps : List MemPlace} {ts : List TypeId} {ds : List (DataW H)} {j : Nat} (hsz : (DataW.weightsEach P ts ds).all (· ≤ reachBytes) = true) (ht : ts[j]? = some t) (hd : ds[j]? = some d) (hu : P.underlying t = some (.slice e)) (he : P.underlying e = some (.int k)) (hc : P.cellsOf e = 1) {B : Nat} (hB : P.bytesOf e = B) (h : DataW.Trod enc P W base spare held t (.slice a len cap) d ps) : len * B ≤ 140737488351232 := Go.Proofs.YtjogepmenphaeaaW.PrintWords.sized_ints hsz ht hd hu he hc hB h
end Go.Proofs.PrintWords
namespace Go.Proofs.Ytjogepmenphaeaa.Pure
open Go.RowKit Go.Proofs.Ytjogepmenphaeaa.PFnExactUnstuff Go.Proofs.YtjogepmenphaeaaW.PrintWords Go.Proofs.YtjogepmenphaeaaW.PrintLast Go.Proofs.YtjogepmenphaeaaW.PrintMore
set_option linter.unusedVariables false
set_option linter.unusedSimpArgs false
set_option maxRecDepth 4000

theorem w64 {x : Int} (h1 : -9223372036854775808 ≤ x) (h2 : x ≤ 9223372036854775807) : wrap64 x = x := by unfold wrap64; omega
theorem wsucc {i : Nat} (h : i ≤ 4611686018427387904) : wrap64 ((i : Int) + 1) = ((i + 1 : Nat) : Int) := by unfold wrap64; omega
theorem rd_nat (l : List Int) (i : Nat) (h : i < l.length) : rd l (i : Int) = l[i] := by simp [rd, List.getD_eq_getElem?_getD, h]
theorem drop_at {α : Type} (l : List α) (i : Nat) (h : i < l.length) : l.drop i = l[i] :: l.drop (i + 1) := List.drop_eq_getElem_cons h
theorem wf64 {x : Int} (h : (Lit.int .i64 x).wf = true) : -9223372036854775808 ≤ x ∧ x ≤ 9223372036854775807 := by
  simp [Lit.wf, IntKind.min, IntKind.max, IntKind.bits, IntKind.signed] at h; omega
theorem wfu8 {x : Int} (h : (Lit.int .u8 x).wf = true) : 0 ≤ x ∧ x ≤ 255 := by
  simp [Lit.wf, IntKind.min, IntKind.max, IntKind.bits, IntKind.signed] at h; omega

theorem toByteS_loop (l : List Int) (hl : l.length ≤ 4611686018427387904) : ∀ (d k i : Nat) (x : List Int), i + d = l.length → d < k → x.length = l.length → (∀ j, j < i → x[j]? = l[j]?) → laws_toByteS.l0 k l x (i : Int) = some l := by
  intro d
  induction d with
  | zero =>
    intro k i x hi hk hx he
    obtain ⟨k, rfl⟩ : ∃ m, k = m + 1 := ⟨k - 1, by omega⟩
    rw [laws_toByteS.l0, if_neg (by omega)]
    congr 1
    apply List.ext_getElem? 
    intro j
    by_cases hj : j < i
    · exact he j hj
    · rw [List.getElem?_eq_none (by omega), List.getElem?_eq_none (by omega)]
  | succ d ih =>
    intro k i x hi hk hx he
    obtain ⟨k, rfl⟩ : ∃ m, k = m + 1 := ⟨k - 1, by omega⟩
    rw [laws_toByteS.l0, if_pos (by omega), if_pos (by omega), if_pos (by omega), wsucc (by omega)]
    refine ih k (i + 1) _ (by omega) (by omega) (by simpa using hx) ?_
    intro j hj
    rw [rd_nat l i (by omega), Int.toNat_natCast, List.getElem?_set]
    by_cases e : i = j
    · subst e; simp [show i < x.length by omega, List.getElem?_eq_getElem (show i < l.length by omega)]
    · rw [if_neg e]; exact he j (by omega)
theorem toByteS_eq (l : List Int) (hl : l.length ≤ 281474976710656) (k : Nat) (hk : l.length < k) : laws_toByteS.f k l = some l := by
  unfold laws_toByteS.f
  rw [if_pos (by omega), if_pos (by omega)]
  exact toByteS_loop l (by omega) l.length k 0 _ (by omega) hk (by simp) (by intro j hj; omega)

theorem eqByteS_loop (l : List Int) (hl : l.length ≤ 4611686018427387904) : ∀ (d k i : Nat), i + d = l.length → d < k → laws_eqByteS.l0 k l l (i : Int) = some true := by
  intro d
  induction d with
  | zero =>
    intro k i hi hk
    obtain ⟨k, rfl⟩ : ∃ m, k = m + 1 := ⟨k - 1, by omega⟩
    rw [laws_eqByteS.l0, if_neg (by omega)]
  | succ d ih =>
    intro k i hi hk
    obtain ⟨k, rfl⟩ : ∃ m, k = m + 1 := ⟨k - 1, by omega⟩
    rw [laws_eqByteS.l0, if_pos (by omega), if_pos (by omega), if_pos (by omega), if_pos rfl, wsucc (by omega)]
    exact ih k (i + 1) (by omega) (by omega)
theorem eqByteS_refl (l : List Int) (hl : l.length ≤ 4611686018427387904) (k : Nat) (hk : l.length < k) : laws_eqByteS.f k l l = some true := by
  unfold laws_eqByteS.f
  rw [if_pos rfl]
  exact eqByteS_loop l hl l.length k 0 (by omega) hk

def bmarks (n : Nat) : List Int := (List.range n).map fun j : Nat => ((j : Int) + 1) % 256
theorem bmarks_len (n : Nat) : (bmarks n).length = n := by simp [bmarks]
theorem markByteS_loop (n : Nat) (hn : n ≤ 4611686018427387904) : ∀ (d k i : Nat) (x : List Int), i + d = n → d < k → x.length = n → (∀ j, j < i → x[j]? = some (((j : Int) + 1) % 256)) → laws_markByteS.l0 k x ((i : Int) + 1) (i : Int) = some ((n : Int) + 1, bmarks n) := by
  intro d
  induction d with
  | zero =>
    intro k i x h1 hk hx he
    obtain ⟨k, rfl⟩ : ∃ m, k = m + 1 := ⟨k - 1, by omega⟩
    rw [laws_markByteS.l0, if_neg (by omega)]
    have e : x = bmarks n := by
      apply List.ext_getElem?
      intro j
      by_cases hj : j < n
      · rw [he j (by omega)]; simp [bmarks, hj]
      · rw [List.getElem?_eq_none (by omega), List.getElem?_eq_none (by rw [bmarks_len]; omega)]
    rw [e, show i = n by omega]
  | succ d ih =>
    intro k i x h1 hk hx he
    obtain ⟨k, rfl⟩ : ∃ m, k = m + 1 := ⟨k - 1, by omega⟩
    rw [laws_markByteS.l0, if_pos (by omega), if_pos (by omega), wsucc (by omega), w64 (by omega) (by omega), show (i : Int) + 1 + 1 = ((i + 1 : Nat) : Int) + 1 by omega]
    refine ih k (i + 1) _ (by omega) (by omega) (by simpa using hx) ?_
    intro j hj
    rw [Int.toNat_natCast, List.getElem?_set]
    by_cases e : i = j
    · subst e; simp [show i < x.length by omega]
    · rw [if_neg e]; exact he j (by omega)
theorem markByteS_eq (l : List Int) (hn : l.length ≤ 4611686018427387904) (k : Nat) (hk : l.length < k) : laws_markByteS.f k l 1 = some ((l.length : Int) + 1, bmarks l.length) := by
  unfold laws_markByteS.f
  exact markByteS_loop l.length hn l.length k 0 l (by omega) hk rfl (by intro j hj; omega)
theorem heldByteS_loop (n : Nat) (hn : n ≤ 4611686018427387904) : ∀ (d k i : Nat), i + d = n → d < k → laws_heldByteS.l0 k (bmarks n) ((i : Int) + 1) (i : Int) = some ((n : Int) + 1) := by
  intro d
  have hl := bmarks_len n
  induction d with
  | zero =>
    intro k i h1 hk
    obtain ⟨k, rfl⟩ : ∃ m, k = m + 1 := ⟨k - 1, by omega⟩
    rw [laws_heldByteS.l0, if_neg (by omega), show i = n by omega]
  | succ d ih =>
    intro k i h1 hk
    obtain ⟨k, rfl⟩ : ∃ m, k = m + 1 := ⟨k - 1, by omega⟩
    rw [laws_heldByteS.l0, if_pos (by omega), if_pos (by omega), rd_nat (bmarks n) i (by omega), if_pos (by simp [bmarks]), wsucc (by omega), w64 (by omega) (by omega), show (i : Int) + 1 + 1 = ((i + 1 : Nat) : Int) + 1 by omega]
    exact ih k (i + 1) (by omega) (by omega)
theorem heldByteS_eq (n : Nat) (hn : n ≤ 4611686018427387904) (k : Nat) (hk : n < k) : laws_heldByteS.f k (bmarks n) 1 = some ((n : Int) + 1) := by
  unfold laws_heldByteS.f
  exact heldByteS_loop n hn n k 0 (by omega) hk

def unst : List Int → List Int × Nat
  | [] => ([], 0)
  | [x] => if x = 255 then ([], 0) else ([x], 1)
  | x :: y :: ys => if x = 255 then (if y = 0 then (255 :: (unst ys).1, (unst ys).2 + 2) else ([], 0)) else (x :: (unst (y :: ys)).1, (unst (y :: ys)).2 + 1)
theorem unst_len : ∀ (n : Nat) (l : List Int), l.length ≤ n → (unst l).1.length ≤ l.length ∧ (unst l).2 ≤ l.length := by
  intro n
  induction n with
  | zero => intro l h; have : l = [] := List.length_eq_zero_iff.1 (by omega); subst this; simp [unst]
  | succ n ih =>
    intro l h
    match l, h with
    | [], _ => simp [unst]
    | [x], _ => unfold unst; split <;> simp
    | x :: y :: ys, h =>
      have h1 := ih ys (by simp at h; omega)
      have h2 := ih (y :: ys) (by simp at h ⊢; omega)
      simp at h2
      unfold unst; split
      · split <;> simp <;> omega
      · simp; omega
theorem specUnstuff_loop (l : List Int) (hl : l.length ≤ 1048576) : ∀ (d k i : Nat) (a : List Int), i + d = l.length → d < k → a.length ≤ i → spec_Unstuff.l0 k l a (i : Int) = some (a ++ (unst (l.drop i)).1, (i : Int) + ((unst (l.drop i)).2 : Int)) := by
  intro d
  induction d using Nat.strongRecOn with
  | ind d ih =>
    intro k i a h1 hk ha
    obtain ⟨k, rfl⟩ : ∃ m, k = m + 1 := ⟨k - 1, by omega⟩
    by_cases hd : d = 0
    · rw [spec_Unstuff.l0, if_neg (by omega), List.drop_eq_nil_of_le (by omega)]; simp [unst]
    · rw [spec_Unstuff.l0, if_pos (by omega), if_pos (by omega), rd_nat l i (by omega), wsucc (by omega), drop_at l i (by omega)]
      by_cases h : l[i] = 255
      · rw [if_pos h]
        by_cases h2 : i + 1 = l.length
        · rw [if_pos (by omega), List.drop_eq_nil_of_le (by omega)]; simp [unst, h]
        · rw [if_neg (by omega), if_pos (by omega), if_pos (by omega), rd_nat l (i + 1) (by omega), drop_at l (i + 1) (by omega)]
          by_cases h3 : l[i + 1] = 0
          · rw [if_pos h3, if_pos (by omega), wsucc (by omega), ih (d - 2) (by omega) k (i + 1 + 1) _ (by omega) (by omega) (by simp; omega)]
            simp [unst, h, h3]; omega
          · rw [if_neg h3]; simp [unst, h, h3]
      · rw [if_neg h, if_pos (by omega), ih (d - 1) (by omega) k (i + 1) _ (by omega) (by omega) (by simp; omega)]
        by_cases h2 : i + 1 = l.length
        · rw [List.drop_eq_nil_of_le (show l.length ≤ i + 1 by omega)]; simp [unst, h]
        · rw [drop_at l (i + 1) (by omega)]; simp [unst, h]; omega
theorem specUnstuff_eq (l : List Int) (hl : l.length ≤ 1048576) (k : Nat) (hk : l.length < k) : spec_Unstuff.f k l = some ((unst l).1, ((unst l).2 : Int)) := by
  unfold spec_Unstuff.f
  have := specUnstuff_loop l hl l.length k 0 [] (by omega) hk (by simp)
  simpa using this
theorem implUnstuff_loop (l : List Int) (hl : l.length ≤ 1048576) : ∀ (d k i : Nat) (a : List Int), i + d = l.length → 2 * d < k → a.length ≤ i → impl_Unstuff.l0 k l a (i : Int) = some (a ++ (unst (l.drop i)).1, (i : Int) + ((unst (l.drop i)).2 : Int)) := by
  intro d
  induction d using Nat.strongRecOn with
  | ind d ih =>
    intro k i a h1 hk ha
    obtain ⟨k, rfl⟩ : ∃ m, k = m + 1 := ⟨k - 1, by omega⟩
    by_cases hd : d = 0
    · rw [impl_Unstuff.l0, if_neg (by omega), List.drop_eq_nil_of_le (by omega)]; simp [unst]; omega
    · obtain ⟨k, rfl⟩ : ∃ m, k = m + 1 := ⟨k - 1, by omega⟩
      rw [impl_Unstuff.l0, if_pos (by omega), if_pos (by omega), rd_nat l i (by omega), wsucc (by omega), drop_at l i (by omega)]
      have push : ∀ b : Bool, b = false → impl_Unstuff.j1 (k + 1) l a (i : Int) b = (if l[i] = 255 then impl_Unstuff.l0 k l (a ++ [l[i]]) (wrap64 (((i + 1 : Nat) : Int) + 1)) else impl_Unstuff.l0 k l (a ++ [l[i]]) ((i + 1 : Nat) : Int)) := by
        intro b hb
        subst hb
        rw [impl_Unstuff.j1, if_neg (by simp), if_pos (by omega), if_pos (by omega), if_pos (by omega), Option.bind_some, rd_nat l i (by omega), wsucc (by omega)]
      by_cases h : l[i] = 255
      · rw [if_pos h]
        by_cases h2 : i + 1 = l.length
        · rw [if_pos (by omega), List.drop_eq_nil_of_le (by omega), impl_Unstuff.j1]; simp [unst, h]
        · rw [if_neg (by omega), if_pos (by omega), if_pos (by omega), rd_nat l (i + 1) (by omega), drop_at l (i + 1) (by omega)]
          by_cases h3 : l[i + 1] = 0
          · rw [push _ (by simp [h3]), if_pos h, wsucc (by omega), ih (d - 2) (by omega) k (i + 1 + 1) _ (by omega) (by omega) (by simp; omega)]
            simp [unst, h, h3]; omega
          · rw [impl_Unstuff.j1, if_pos (by simpa using h3)]; simp [unst, h, h3]
      · rw [if_neg h, push _ rfl, if_neg h, ih (d - 1) (by omega) k (i + 1) _ (by omega) (by omega) (by simp; omega)]
        by_cases h2 : i + 1 = l.length
        · rw [List.drop_eq_nil_of_le (show l.length ≤ i + 1 by omega)]; simp [unst, h]
        · rw [drop_at l (i + 1) (by omega)]; simp [unst, h]; omega
theorem implUnstuff_eq (l : List Int) (hl : l.length ≤ 1048576) (k : Nat) (hk : 2 * l.length < k) : impl_Unstuff.f k l = some ((unst l).1, ((unst l).2 : Int)) := by
  unfold impl_Unstuff.f
  have := implUnstuff_loop l hl l.length k 0 [] (by omega) hk (by simp)
  simpa using this

theorem FnExactUnstuff : laws_FnExactUnstuff.Pure := by
  intro l hm hr hw
  obtain ⟨K, hK⟩ : ∃ K, K = 2 * l.length + 100 := ⟨_, rfl⟩
  refine ⟨K + 3, ?_⟩
  unfold laws_FnExactUnstuff.f
  by_cases h : (l.length : Int) > 1048576
  · rw [if_pos h]
  rw [if_neg h]
  obtain ⟨hl1, hl2⟩ := unst_len l.length l (by omega)
  have e1 := toByteS_eq l (by omega)
  have e2 := specUnstuff_eq l (by omega)
  have e3 := implUnstuff_eq l (by omega)
  obtain ⟨r, hr⟩ : ∃ r, r = (unst l).1 := ⟨_, rfl⟩
  obtain ⟨p, hp⟩ : ∃ p : Int, p = ((unst l).2 : Int) := ⟨_, rfl⟩
  rw [← hr] at hl1 e2 e3
  rw [← hp] at e2 e3
  have e4 := eqByteS_refl l (by omega)
  have e5 := eqByteS_refl r (by omega)
  have e6 := markByteS_eq l (by omega)
  have e7 := markByteS_eq r (by omega)
  have e8 := heldByteS_eq r.length (by omega)
  have g1 : ¬ ((l.length : Int) + 1 < 0) := by omega
  have g2 : ¬ ((r.length : Int) + 1 < 0) := by omega
  have g3 : (p != p) = false := by simp
  simp (disch := omega) only [e1, e2, e3, e5, Option.bind_some, if_true, g3]
  rw [laws_FnExactUnstuff.j0]
  simp (disch := omega) only [e1, e4, e5, e6, Option.bind_some, if_true, if_neg g1, Bool.false_eq_true, if_false, g3]
  rw [laws_FnExactUnstuff.j1]
  simp (disch := omega) only [e1, e3, e5, e7, e8, Option.bind_some, if_true, if_neg g2, Bool.false_eq_true, if_false, g3]
  rw [laws_FnExactUnstuff.j2]
  simp (disch := omega) only [e8, Option.bind_some, if_true, if_neg g2, Bool.false_eq_true, if_false]

end Go.Proofs.Ytjogepmenphaeaa.Pure
