/- The pure statement of the law FnExactStuff, for every input that its guards let in. -/
import Derived.Test.YtjogepmenphaeaaPFnExactStuffx2
import Derived.Test.YtjogepmenphaeaaWSized
-- The printed row names this word without its seat: the same fact under that name.
namespace Go.Proofs.PrintWords
theorem sized_ints {H : Type} {enc : TypeId × Value → H} {P : Program} {W : World} {base : Nat} {spare : Nat → Bool} {held : Bool} {t e : TypeId} {k : IntKind} {a : Option Addr} {len cap : Nat} {d : DataW H} {ps : List MemPlace} {ts : List TypeId} {ds : List (DataW H)} {j : Nat} (hsz : (DataW.weightsEach P ts ds).all (· ≤ reachBytes) = true) (ht : ts[j]? = some t) (hd : ds[j]? = some d) (hu : P.underlying t = some (.slice e)) (he : P.underlying e = some (.int k)) (hc : P.cellsOf e = 1) {B : Nat} (hB : P.bytesOf e = B) (h : DataW.Trod enc P W base spare held t (.slice a len cap) d ps) : len * B ≤ 140737488351232 := Go.Proofs.YtjogepmenphaeaaW.PrintWords.sized_ints hsz ht hd hu he hc hB h
end Go.Proofs.PrintWords
namespace Go.Proofs.Ytjogepmenphaeaa.Pure
open Go.RowKit Go.Proofs.Ytjogepmenphaeaa.PFnExactStuff Go.Proofs.YtjogepmenphaeaaW.PrintWords Go.Proofs.YtjogepmenphaeaaW.PrintLast Go.Proofs.YtjogepmenphaeaaW.PrintMore
set_option linter.unusedVariables false
set_option linter.unusedSimpArgs false
set_option maxRecDepth 4000

theorem w64 {x : Int} (h1 : -9223372036854775808 ≤ x) (h2 : x ≤ 9223372036854775807) : wrap64 x = x := by unfold wrap64; omega
theorem wsucc {i : Nat} (h : i ≤ 4611686018427387904) : wrap64 ((i : Int) + 1) = ((i + 1 : Nat) : Int) := by unfold wrap64; omega
theorem rd_nat (l : List Int) (i : Nat) (h : i < l.length) : rd l (i : Int) = l[i] := by simp [rd, List.getD_eq_getElem?_getD, h]
theorem drop_at {α : Type} (l : List α) (i : Nat) (h : i < l.length) : l.drop i = l[i] :: l.drop (i + 1) := List.drop_eq_getElem_cons h
theorem wf64 {x : Int} (h : (Lit.int .i64 x).wf = true) : -9223372036854775808 ≤ x ∧ x ≤ 9223372036854775807 := by
  simp [Lit.wf, IntKind.min, IntKind.max, IntKind.bits, IntKind.signed] at h; omega
theorem wfu8 {x : Int} (h : (Lit.int .u8 x).wf = true) : 0 ≤ x ∧ x ≤ 255 := by
  simp [Lit.wf, IntKind.min, IntKind.max, IntKind.bits, IntKind.signed] at h; omega

theorem toByteS_loop (l : List Int) (hl : l.length ≤ 4611686018427387904) : ∀ (d k i : Nat) (x : List Int), i + d = l.length → d < k → x.length = l.length → (∀ j, j < i → x[j]? = l[j]?) → laws_toByteS.l0 k l x (i : Int) = some l := by
  intro d
  induction d with
  | zero =>
    intro k i x hi hk hx he
    obtain ⟨k, rfl⟩ : ∃ m, k = m + 1 := ⟨k - 1, by omega⟩
    rw [laws_toByteS.l0, if_neg (by omega)]
    congr 1
    apply List.ext_getElem? 
    intro j
    by_cases hj : j < i
    · exact he j hj
    · rw [List.getElem?_eq_none (by omega), List.getElem?_eq_none (by omega)]
  | succ d ih =>
    intro k i x hi hk hx he
    obtain ⟨k, rfl⟩ : ∃ m, k = m + 1 := ⟨k - 1, by omega⟩
    rw [laws_toByteS.l0, if_pos (by omega), if_pos (by omega), if_pos (by omega), wsucc (by omega)]
    refine ih k (i + 1) _ (by omega) (by omega) (by simpa using hx) ?_
    intro j hj
    rw [rd_nat l i (by omega), Int.toNat_natCast, List.getElem?_set]
    by_cases e : i = j
    · subst e; simp [show i < x.length by omega, List.getElem?_eq_getElem (show i < l.length by omega)]
    · rw [if_neg e]; exact he j (by omega)
theorem toByteS_eq (l : List Int) (hl : l.length ≤ 281474976710656) (k : Nat) (hk : l.length < k) : laws_toByteS.f k l = some l := by
  unfold laws_toByteS.f
  rw [if_pos (by omega), if_pos (by omega)]
  exact toByteS_loop l (by omega) l.length k 0 _ (by omega) hk (by simp) (by intro j hj; omega)

theorem eqByteS_loop (l : List Int) (hl : l.length ≤ 4611686018427387904) : ∀ (d k i : Nat), i + d = l.length → d < k → laws_eqByteS.l0 k l l (i : Int) = some true := by
  intro d
  induction d with
  | zero =>
    intro k i hi hk
    obtain ⟨k, rfl⟩ : ∃ m, k = m + 1 := ⟨k - 1, by omega⟩
    rw [laws_eqByteS.l0, if_neg (by omega)]
  | succ d ih =>
    intro k i hi hk
    obtain ⟨k, rfl⟩ : ∃ m, k = m + 1 := ⟨k - 1, by omega⟩
    rw [laws_eqByteS.l0, if_pos (by omega), if_pos (by omega), if_pos (by omega), if_pos rfl, wsucc (by omega)]
    exact ih k (i + 1) (by omega) (by omega)
theorem eqByteS_refl (l : List Int) (hl : l.length ≤ 4611686018427387904) (k : Nat) (hk : l.length < k) : laws_eqByteS.f k l l = some true := by
  unfold laws_eqByteS.f
  rw [if_pos rfl]
  exact eqByteS_loop l hl l.length k 0 (by omega) hk

def bmarks (n : Nat) : List Int := (List.range n).map fun j : Nat => ((j : Int) + 1) % 256
theorem bmarks_len (n : Nat) : (bmarks n).length = n := by simp [bmarks]
theorem markByteS_loop (n : Nat) (hn : n ≤ 4611686018427387904) : ∀ (d k i : Nat) (x : List Int), i + d = n → d < k → x.length = n → (∀ j, j < i → x[j]? = some (((j : Int) + 1) % 256)) → laws_markByteS.l0 k x ((i : Int) + 1) (i : Int) = some ((n : Int) + 1, bmarks n) := by
  intro d
  induction d with
  | zero =>
    intro k i x h1 hk hx he
    obtain ⟨k, rfl⟩ : ∃ m, k = m + 1 := ⟨k - 1, by omega⟩
    rw [laws_markByteS.l0, if_neg (by omega)]
    have e : x = bmarks n := by
      apply List.ext_getElem?
      intro j
      by_cases hj : j < n
      · rw [he j (by omega)]; simp [bmarks, hj]
      · rw [List.getElem?_eq_none (by omega), List.getElem?_eq_none (by rw [bmarks_len]; omega)]
    rw [e, show i = n by omega]
  | succ d ih =>
    intro k i x h1 hk hx he
    obtain ⟨k, rfl⟩ : ∃ m, k = m + 1 := ⟨k - 1, by omega⟩
    rw [laws_markByteS.l0, if_pos (by omega), if_pos (by omega), wsucc (by omega), w64 (by omega) (by omega), show (i : Int) + 1 + 1 = ((i + 1 : Nat) : Int) + 1 by omega]
    refine ih k (i + 1) _ (by omega) (by omega) (by simpa using hx) ?_
    intro j hj
    rw [Int.toNat_natCast, List.getElem?_set]
    by_cases e : i = j
    · subst e; simp [show i < x.length by omega]
    · rw [if_neg e]; exact he j (by omega)
theorem markByteS_eq (l : List Int) (hn : l.length ≤ 4611686018427387904) (k : Nat) (hk : l.length < k) : laws_markByteS.f k l 1 = some ((l.length : Int) + 1, bmarks l.length) := by
  unfold laws_markByteS.f
  exact markByteS_loop l.length hn l.length k 0 l (by omega) hk rfl (by intro j hj; omega)
theorem heldByteS_loop (n : Nat) (hn : n ≤ 4611686018427387904) : ∀ (d k i : Nat), i + d = n → d < k → laws_heldByteS.l0 k (bmarks n) ((i : Int) + 1) (i : Int) = some ((n : Int) + 1) := by
  intro d
  have hl := bmarks_len n
  induction d with
  | zero =>
    intro k i h1 hk
    obtain ⟨k, rfl⟩ : ∃ m, k = m + 1 := ⟨k - 1, by omega⟩
    rw [laws_heldByteS.l0, if_neg (by omega), show i = n by omega]
  | succ d ih =>
    intro k i h1 hk
    obtain ⟨k, rfl⟩ : ∃ m, k = m + 1 := ⟨k - 1, by omega⟩
    rw [laws_heldByteS.l0, if_pos (by omega), if_pos (by omega), rd_nat (bmarks n) i (by omega), if_pos (by simp [bmarks]), wsucc (by omega), w64 (by omega) (by omega), show (i : Int) + 1 + 1 = ((i + 1 : Nat) : Int) + 1 by omega]
    exact ih k (i + 1) (by omega) (by omega)
theorem heldByteS_eq (n : Nat) (hn : n ≤ 4611686018427387904) (k : Nat) (hk : n < k) : laws_heldByteS.f k (bmarks n) 1 = some ((n : Int) + 1) := by
  unfold laws_heldByteS.f
  exact heldByteS_loop n hn n k 0 (by omega) hk

def stuffL : List Int → List Int
  | [] => []
  | x :: xs => if x = 255 then x :: 0 :: stuffL xs else x :: stuffL xs
theorem stuffL_len : ∀ l : List Int, (stuffL l).length ≤ 2 * l.length
  | [] => by simp [stuffL]
  | x :: xs => by
    have := stuffL_len xs
    unfold stuffL; split <;> simp <;> omega
theorem specStuff_loop (l : List Int) (hl : l.length ≤ 1048576) : ∀ (d k i : Nat) (a : List Int), i + d = l.length → d < k → a.length ≤ 2 * i → spec_Stuff.l0 k l a (i : Int) = some (a ++ stuffL (l.drop i)) := by
  intro d
  induction d with
  | zero =>
    intro k i a h1 hk ha
    obtain ⟨k, rfl⟩ : ∃ m, k = m + 1 := ⟨k - 1, by omega⟩
    rw [spec_Stuff.l0, if_neg (by omega), List.drop_eq_nil_of_le (by omega)]; simp [stuffL]
  | succ d ih =>
    intro k i a h1 hk ha
    obtain ⟨k, rfl⟩ : ∃ m, k = m + 1 := ⟨k - 1, by omega⟩
    rw [spec_Stuff.l0, if_pos (by omega), if_pos (by omega), if_pos (by omega), drop_at l i (by omega), stuffL, Option.bind_some, rd_nat l i (by omega), wsucc (by omega)]
    by_cases h : l[i] = 255
    · rw [if_pos h, if_pos (by simp; omega), if_pos h, ih k (i + 1) _ (by omega) (by omega) (by simp; omega)]; simp
    · rw [if_neg h, if_neg h, ih k (i + 1) _ (by omega) (by omega) (by simp; omega)]; simp
theorem specStuff_eq (l : List Int) (hl : l.length ≤ 1048576) (k : Nat) (hk : l.length < k) : spec_Stuff.f k l = some (if (l.length : Int) > 60000 then [] else stuffL l) := by
  unfold spec_Stuff.f
  rw [Option.bind_some]
  split
  · rfl
  · exact specStuff_loop l hl l.length k 0 [] (by omega) hk (by simp)
theorem stuffed_loop (l : List Int) (hl : l.length ≤ 1048576) : ∀ (d k i : Nat) (a : List Int), i + d = l.length → d < k → a.length ≤ 2 * i → impl_stuffed.l0 k a l (l.length : Int) (i : Int) = some (a ++ stuffL (l.drop i)) := by
  intro d
  induction d with
  | zero =>
    intro k i a h1 hk ha
    obtain ⟨k, rfl⟩ : ∃ m, k = m + 1 := ⟨k - 1, by omega⟩
    rw [impl_stuffed.l0, if_neg (by omega), List.drop_eq_nil_of_le (by omega)]; simp [stuffL]
  | succ d ih =>
    intro k i a h1 hk ha
    obtain ⟨k, rfl⟩ : ∃ m, k = m + 1 := ⟨k - 1, by omega⟩
    rw [impl_stuffed.l0, if_pos (by omega), if_pos (by omega), if_pos (by omega), if_pos (by omega), drop_at l i (by omega), stuffL, Option.bind_some, rd_nat l i (by omega), wsucc (by omega)]
    by_cases h : l[i] = 255
    · rw [if_pos h, if_pos (by simp; omega), if_pos h, ih k (i + 1) _ (by omega) (by omega) (by simp; omega)]; simp
    · rw [if_neg h, if_neg h, ih k (i + 1) _ (by omega) (by omega) (by simp; omega)]; simp
theorem stuffed_eq (l : List Int) (hl : l.length ≤ 1048576) (k : Nat) (hk : l.length < k) : impl_stuffed.f k l = some (stuffL l) := by
  unfold impl_stuffed.f
  exact stuffed_loop l hl l.length k 0 [] (by omega) hk (by simp)
theorem implStuff_eq (l : List Int) (hl : l.length ≤ 1048576) (k : Nat) (hk : l.length < k) : impl_Stuff.f k l = some (if (l.length : Int) > 60000 then [] else stuffL l) := by
  unfold impl_Stuff.f
  split
  · rfl
  · rw [stuffed_eq l hl k hk]; rfl

theorem FnExactStuff : laws_FnExactStuff.Pure := by
  intro l hm hr hw
  obtain ⟨K, hK⟩ : ∃ K, K = 2 * l.length + 100 := ⟨_, rfl⟩
  refine ⟨K + 1, ?_⟩
  unfold laws_FnExactStuff.f
  by_cases h : (l.length : Int) > 1048576
  · rw [if_pos h]
  rw [if_neg h]
  obtain ⟨r, hr⟩ : ∃ r, r = (if (l.length : Int) > 60000 then [] else stuffL l) := ⟨_, rfl⟩
  have hrl : r.length ≤ 2 * l.length := by
    have := stuffL_len l
    rw [hr]; split <;> simp; omega
  have e1 := toByteS_eq l (by omega)
  have e2 := specStuff_eq l (by omega)
  have e3 := implStuff_eq l (by omega)
  have e4 := eqByteS_refl l (by omega)
  have e5 := eqByteS_refl r (by omega)
  have e6 := markByteS_eq l (by omega)
  have e7 := markByteS_eq r (by omega)
  have e8 := heldByteS_eq r.length (by omega)
  rw [← hr] at e2 e3
  have g1 : ¬ ((l.length : Int) + 1 < 0) := by omega
  have g2 : ¬ ((r.length : Int) + 1 < 0) := by omega
  simp (disch := omega) only [e1, e2, e3, e4, e5, e6, Option.bind_some, if_true, if_neg g1]
  rw [laws_FnExactStuff.j0]
  simp (disch := omega) only [e1, e3, e5, e7, e8, Option.bind_some, if_true, if_neg g2, Bool.not_true, Bool.false_eq_true, if_false]

end Go.Proofs.Ytjogepmenphaeaa.Pure
