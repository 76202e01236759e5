/- The pure statement of the law FnExactFromZig, for every input that its guards let in. -/
import Derived.Test.YtbiamhmjcnmjgaaPFnExactFromZigx3
import Derived.Test.YtbiamhmjcnmjgaaWSized
-- The printed row names this word without its seat: the same fact under that name.
namespace Go.Proofs.PrintWords
theorem sized_ints {H : Type} {enc : TypeId × Value → H} {P : Program} {W : World} {base : Nat} {spare : Nat → Bool} {held : Bool} {t e : TypeId} {k : IntKind} {a : Option Addr} {len cap : Nat} {d : DataW H} {ps : List MemPlace} {ts : List TypeId} {ds : List (DataW H)} {j : Nat} (hsz : (DataW.weightsEach P ts ds).all (· ≤ reachBytes) = true) (ht : ts[j]? = some t) (hd : ds[j]? = some d) (hu : P.underlying t = some (.slice e)) (he : P.underlying e = some (.int k)) (hc : P.cellsOf e = 1) {B : Nat} (hB : P.bytesOf e = B) (h : DataW.Trod enc P W base spare held t (.slice a len cap) d ps) : len * B ≤ 140737488351232 := Go.Proofs.YtbiamhmjcnmjgaaW.PrintWords.sized_ints hsz ht hd hu he hc hB h
end Go.Proofs.PrintWords
namespace Go.Proofs.Ytbiamhmjcnmjgaa.Pure
open Go.RowKit Go.Proofs.Ytbiamhmjcnmjgaa.PFnExactFromZig Go.Proofs.YtbiamhmjcnmjgaaW.PrintWords Go.Proofs.YtbiamhmjcnmjgaaW.PrintLast Go.Proofs.YtbiamhmjcnmjgaaW.PrintMore
set_option linter.unusedVariables false
set_option linter.unusedSimpArgs false
set_option maxRecDepth 4000

theorem w64 {x : Int} (h1 : -9223372036854775808 ≤ x) (h2 : x ≤ 9223372036854775807) : wrap64 x = x := by unfold wrap64; omega
theorem wsucc {i : Nat} (h : i ≤ 4611686018427387904) : wrap64 ((i : Int) + 1) = ((i + 1 : Nat) : Int) := by unfold wrap64; omega
theorem rd_nat (l : List Int) (i : Nat) (h : i < l.length) : rd l (i : Int) = l[i] := by simp [rd, List.getD_eq_getElem?_getD, h]
theorem drop_at {α : Type} (l : List α) (i : Nat) (h : i < l.length) : l.drop i = l[i] :: l.drop (i + 1) := List.drop_eq_getElem_cons h
theorem wf64 {x : Int} (h : (Lit.int .i64 x).wf = true) : -9223372036854775808 ≤ x ∧ x ≤ 9223372036854775807 := by
  simp [Lit.wf, IntKind.min, IntKind.max, IntKind.bits, IntKind.signed] at h; omega
theorem wfu8 {x : Int} (h : (Lit.int .u8 x).wf = true) : 0 ≤ x ∧ x ≤ 255 := by
  simp [Lit.wf, IntKind.min, IntKind.max, IntKind.bits, IntKind.signed] at h; omega

def inR (lo hi : Int) (l : List Int) : Bool := l.all fun x => decide (lo ≤ x ∧ x ≤ hi)
theorem inR_nil (lo hi : Int) : inR lo hi [] = true := rfl
theorem inR_cons (lo hi x : Int) (l : List Int) : inR lo hi (x :: l) = (decide (lo ≤ x ∧ x ≤ hi) && inR lo hi l) := rfl
theorem inR_at {lo hi : Int} {l : List Int} (h : inR lo hi l = true) (i : Nat) (hi' : i < l.length) : lo ≤ l[i] ∧ l[i] ≤ hi := by
  unfold inR at h; rw [List.all_eq_true] at h; simpa using h l[i] (List.getElem_mem hi')

theorem rd_getD (l : List Int) (i : Nat) : rd l (i : Int) = l.getD i 0 := by simp [rd]
theorem push_loop {α β : Type} (F : Nat → List α → Int → Option β) (g : Nat → α) (n : Nat) (res : β)
    (hstep : ∀ (k i : Nat) (a : List α), i < n → a.length = i → F (k + 1) a (i : Int) = F k (a ++ [g i]) ((i + 1 : Nat) : Int))
    (hend : ∀ k : Nat, F (k + 1) ((List.range n).map g) (n : Int) = some res) : ∀ k : Nat, n < k → F k [] 0 = some res := by
  have main : ∀ (d k i : Nat), i + d = n → d < k → F k ((List.range i).map g) (i : Int) = some res := by
    intro d
    induction d with
    | zero =>
      intro k i h1 hk
      obtain ⟨k, rfl⟩ : ∃ m, k = m + 1 := ⟨k - 1, by omega⟩
      obtain rfl : i = n := by omega
      exact hend k
    | succ d ih =>
      intro k i h1 hk
      obtain ⟨k, rfl⟩ : ∃ m, k = m + 1 := ⟨k - 1, by omega⟩
      rw [hstep k i _ (by omega) (by simp)]
      have e : (List.range (i + 1)).map g = (List.range i).map g ++ [g i] := by rw [List.range_succ, List.map_append]; rfl
      rw [← e]
      exact ih k (i + 1) (by omega) (by omega)
  intro k hk
  exact main n k 0 (by omega) hk
theorem state_loop {σ β : Type} (F : Nat → σ → Int → Option β) (s : Nat → σ) (n : Nat) (res : β)
    (hstep : ∀ (k i : Nat), i < n → F (k + 1) (s i) (i : Int) = F k (s (i + 1)) ((i + 1 : Nat) : Int))
    (hend : ∀ k : Nat, F (k + 1) (s n) (n : Int) = some res) : ∀ k : Nat, n < k → F k (s 0) 0 = some res := by
  have main : ∀ (d k i : Nat), i + d = n → d < k → F k (s i) (i : Int) = some res := by
    intro d
    induction d with
    | zero =>
      intro k i h1 hk
      obtain ⟨k, rfl⟩ : ∃ m, k = m + 1 := ⟨k - 1, by omega⟩
      obtain rfl : i = n := by omega
      exact hend k
    | succ d ih =>
      intro k i h1 hk
      obtain ⟨k, rfl⟩ : ∃ m, k = m + 1 := ⟨k - 1, by omega⟩
      rw [hstep k i (by omega)]
      exact ih k (i + 1) (by omega) (by omega)
  intro k hk
  exact main n k 0 (by omega) hk
theorem inR_getD {lo hi : Int} {l : List Int} (h : inR lo hi l = true) (i : Nat) (h' : i < l.length) : lo ≤ l.getD i 0 ∧ l.getD i 0 ≤ hi := by
  have := inR_at h i h'
  simpa [List.getD_eq_getElem?_getD, h'] using this

def zig : List Int := [0, 1, 8, 16, 9, 2, 3, 10, 17, 24, 32, 25, 18, 11, 4, 5, 12, 19, 26, 33, 40, 48, 41, 34, 27, 20, 13, 6, 7, 14, 21, 28, 35, 42, 49, 56, 57, 50, 43, 36, 29, 22, 15, 23, 30, 37, 44, 51, 58, 59, 52, 45, 38, 31, 39, 46, 53, 60, 61, 54, 47, 55, 62, 63]
theorem zig_len : zig.length = 64 := rfl
theorem zig_at (i : Nat) (h : i < 64) : 0 ≤ zig.getD i 0 ∧ zig.getD i 0 < 64 := by
  have : ∀ j : Fin 64, 0 ≤ zig.getD j.val 0 ∧ zig.getD j.val 0 < 64 := by decide +kernel
  exact this ⟨i, h⟩

theorem specZigZag_eq (k : Nat) (hk : 300 ≤ k) : spec_ZigZag.f k = some zig := at_rounds spec_ZigZag.mono hk (by decide +kernel : spec_ZigZag.f 300 = some zig)

theorem implzigZag_eq (k : Nat) (hk : 300 ≤ k) : impl_zigZag.f k = some zig := at_rounds impl_zigZag.mono hk (by decide +kernel : impl_zigZag.f 300 = some zig)

theorem between_eq (a lo hi : Int) : spec_l01Between.f a lo hi = some (decide (lo ≤ a ∧ a ≤ hi)) := by
  unfold spec_l01Between.f
  by_cases h : a ≥ lo
  · rw [if_pos h]; congr 1; simp; omega
  · rw [if_neg h]; congr 1; simp; omega

theorem nums5_loop (l : List Int) (lo hi : Int) (hl : l.length = 64) : ∀ (d k i : Nat), i + d = 64 → d < k → spec_l05Nums.l0 k l lo hi (i : Int) = some (inR lo hi (l.drop i)) := by
  intro d
  induction d with
  | zero =>
    intro k i h1 hk
    obtain ⟨k, rfl⟩ : ∃ m, k = m + 1 := ⟨k - 1, by omega⟩
    rw [spec_l05Nums.l0, if_neg (by omega), List.drop_eq_nil_of_le (by omega), inR_nil]
  | succ d ih =>
    intro k i h1 hk
    obtain ⟨k, rfl⟩ : ∃ m, k = m + 1 := ⟨k - 1, by omega⟩
    rw [spec_l05Nums.l0, if_pos (by omega), if_pos (by omega), if_pos (by omega), between_eq, rd_nat l i (by omega), wsucc (by omega), ih k (i + 1) (by omega) (by omega), drop_at l i (by omega), inR_cons]
    simp only [Option.bind_some]
    by_cases h : lo ≤ l[i] ∧ l[i] ≤ hi <;> simp [h]
theorem nums5_eq (l : List Int) (lo hi : Int) (k : Nat) (hk : 64 < k) : spec_l05Nums.f k l lo hi = some (decide (l.length = 64) && inR lo hi l) := by
  unfold spec_l05Nums.f
  by_cases h : l.length = 64
  · have e : spec_l05Nums.l0 k l lo hi 0 = some (inR lo hi (l.drop 0)) := nums5_loop l lo hi h 64 k 0 (by omega) hk
    rw [if_pos (by omega), e]; simp [h]
  · rw [if_neg (by omega)]; simp [h]

theorem within_eq (a lo hi : Int) : impl_within.f a lo hi = some (decide (lo ≤ a ∧ a ≤ hi)) := by
  unfold impl_within.f
  by_cases h : a ≥ lo
  · rw [if_pos h]; congr 1; simp; omega
  · rw [if_neg h]; congr 1; simp; omega

theorem allWithin_loop (l : List Int) (lo hi : Int) (hl : l.length ≤ 4611686018427387904) : ∀ (d k i : Nat), i + d = l.length → d < k → impl_allWithin.l0 k lo hi l (l.length : Int) (i : Int) = some (inR lo hi (l.drop i)) := by
  intro d
  induction d with
  | zero =>
    intro k i h1 hk
    obtain ⟨k, rfl⟩ : ∃ m, k = m + 1 := ⟨k - 1, by omega⟩
    rw [impl_allWithin.l0, if_neg (by omega), List.drop_eq_nil_of_le (by omega), inR_nil]
  | succ d ih =>
    intro k i h1 hk
    obtain ⟨k, rfl⟩ : ∃ m, k = m + 1 := ⟨k - 1, by omega⟩
    rw [impl_allWithin.l0, if_pos (by omega), if_pos (by omega), if_pos (by omega), within_eq, rd_nat l i (by omega), wsucc (by omega), ih k (i + 1) (by omega) (by omega), drop_at l i (by omega), inR_cons]
    simp only [Option.bind_some]
    by_cases h : lo ≤ l[i] ∧ l[i] ≤ hi <;> simp [h]
theorem allWithin_eq (l : List Int) (lo hi : Int) (hl : l.length ≤ 4611686018427387904) (k : Nat) (hk : l.length < k) : impl_allWithin.f k l lo hi = some (inR lo hi l) := by
  unfold impl_allWithin.f
  exact allWithin_loop l lo hi hl l.length k 0 (by omega) hk

def okL (lo hi : Int) (l : List Int) : Bool := decide (l.length = 64) && inR lo hi l
theorem okL_iff {lo hi : Int} {l : List Int} : okL lo hi l = true ↔ l.length = 64 ∧ inR lo hi l = true := by simp [okL]

theorem specBlockOk_eq (l : List Int) (k : Nat) (hk : 64 < k) : spec_BlockOk.f k l = some (okL (-32767) 32767 l) := by
  unfold spec_BlockOk.f; rw [nums5_eq l _ _ k hk]; rfl

theorem implBlockOk_eq (l : List Int) (k : Nat) (hk : 64 < k) : impl_BlockOk.f k l = some (okL (-32767) 32767 l) := by
  unfold impl_BlockOk.f okL
  by_cases h : l.length = 64
  · rw [if_pos (by omega), allWithin_eq l _ _ (by omega) k (by omega)]; simp [h]
  · rw [if_neg (by omega)]; simp [h]

def frS (l : List Int) : Nat → List Int
  | 0 => List.replicate 64 0
  | i + 1 => (frS l i).set (zig.getD i 0).toNat (l.getD i 0)
theorem frS_len (l : List Int) : ∀ i : Nat, (frS l i).length = 64
  | 0 => by simp [frS]
  | i + 1 => by rw [frS, List.length_set, frS_len l i]
theorem specFromZig_loop (l : List Int) (hl : l.length = 64) (k : Nat) (hk : 64 < k) : spec_FromZig.l0 k l (List.replicate 64 0) zig 0 = some (frS l 64) := by
  have hz := zig_len
  refine state_loop (fun k a i => spec_FromZig.l0 k l a zig i) (frS l) 64 _ ?_ ?_ k hk
  · intro k i hi
    show spec_FromZig.l0 (k + 1) l (frS l i) zig i = _
    have b1 := zig_at i hi
    have b2 := frS_len l i
    rw [spec_FromZig.l0, if_pos (by omega), if_pos (by omega), if_pos (by omega), if_pos (by omega), rd_getD, rd_getD, if_pos b1.1, if_pos (by omega), wsucc (by omega)]
    rfl
  · intro k
    show spec_FromZig.l0 (k + 1) l _ zig _ = _
    rw [spec_FromZig.l0, if_neg (by omega)]
theorem implfromZig_loop (l : List Int) (hl : l.length = 64) (k : Nat) (hk : 64 < k) : impl_fromZig.l0 k l (List.replicate 64 0) zig (zig.length : Int) 0 = some (frS l 64) := by
  have hz := zig_len
  refine state_loop (fun k a i => impl_fromZig.l0 k l a zig (zig.length : Int) i) (frS l) 64 _ ?_ ?_ k hk
  · intro k i hi
    show impl_fromZig.l0 (k + 1) l (frS l i) zig _ i = _
    have b1 := zig_at i hi
    have b2 := frS_len l i
    rw [impl_fromZig.l0, if_pos (by omega), if_pos (by omega), if_pos (by omega), if_pos (by omega), rd_getD, rd_getD, if_pos b1.1, if_pos (by omega), wsucc (by omega)]
    rfl
  · intro k
    show impl_fromZig.l0 (k + 1) l _ zig _ _ = _
    rw [impl_fromZig.l0, if_neg (by omega)]
def fromZigR (l : List Int) : List Int := if okL (-32767) 32767 l then frS l 64 else []
theorem fromZigR_len (l : List Int) : (fromZigR l).length ≤ 64 := by unfold fromZigR; split <;> simp [frS_len]
theorem specFromZig_eq (l : List Int) (k : Nat) (hk : 300 < k) : spec_FromZig.f k l = some (fromZigR l) := by
  unfold spec_FromZig.f fromZigR
  rw [specBlockOk_eq l _ (by omega), Option.bind_some]
  by_cases h : okL (-32767) 32767 l = true
  · rw [if_pos h, if_pos h, if_pos (by omega), specZigZag_eq k (by omega), Option.bind_some]
    exact specFromZig_loop l (okL_iff.1 h).1 k (by omega)
  · rw [if_neg h, if_neg h]
theorem implFromZig_eq (l : List Int) (k : Nat) (hk : 300 < k) : impl_FromZig.f k l = some (fromZigR l) := by
  unfold impl_FromZig.f fromZigR impl_fromZig.f
  rw [implBlockOk_eq l _ (by omega), Option.bind_some]
  by_cases h : okL (-32767) 32767 l = true
  · rw [if_pos h, if_pos h, if_pos (by omega), implzigZag_eq k (by omega), Option.bind_some, implfromZig_loop l (okL_iff.1 h).1 k (by omega)]; rfl
  · rw [if_neg h, if_neg h]

theorem toIntS_loop (l : List Int) (hl : l.length ≤ 4611686018427387904) : ∀ (d k i : Nat) (x : List Int), i + d = l.length → d < k → x.length = l.length → (∀ j, j < i → x[j]? = l[j]?) → laws_toIntS.l0 k l x (i : Int) = some l := by
  intro d
  induction d with
  | zero =>
    intro k i x hi hk hx he
    obtain ⟨k, rfl⟩ : ∃ m, k = m + 1 := ⟨k - 1, by omega⟩
    rw [laws_toIntS.l0, if_neg (by omega)]
    congr 1
    apply List.ext_getElem? 
    intro j
    by_cases hj : j < i
    · exact he j hj
    · rw [List.getElem?_eq_none (by omega), List.getElem?_eq_none (by omega)]
  | succ d ih =>
    intro k i x hi hk hx he
    obtain ⟨k, rfl⟩ : ∃ m, k = m + 1 := ⟨k - 1, by omega⟩
    rw [laws_toIntS.l0, if_pos (by omega), if_pos (by omega), if_pos (by omega), wsucc (by omega)]
    refine ih k (i + 1) _ (by omega) (by omega) (by simpa using hx) ?_
    intro j hj
    rw [rd_nat l i (by omega), Int.toNat_natCast, List.getElem?_set]
    by_cases e : i = j
    · subst e; simp [show i < x.length by omega, List.getElem?_eq_getElem (show i < l.length by omega)]
    · rw [if_neg e]; exact he j (by omega)
theorem toIntS_eq (l : List Int) (hl : l.length ≤ 17592186044416) (k : Nat) (hk : l.length < k) : laws_toIntS.f k l = some l := by
  unfold laws_toIntS.f
  rw [if_pos (by omega), if_pos (by omega)]
  exact toIntS_loop l (by omega) l.length k 0 _ (by omega) hk (by simp) (by intro j hj; omega)

theorem eqIntS_loop (l : List Int) (hl : l.length ≤ 4611686018427387904) : ∀ (d k i : Nat), i + d = l.length → d < k → laws_eqIntS.l0 k l l (i : Int) = some true := by
  intro d
  induction d with
  | zero =>
    intro k i hi hk
    obtain ⟨k, rfl⟩ : ∃ m, k = m + 1 := ⟨k - 1, by omega⟩
    rw [laws_eqIntS.l0, if_neg (by omega)]
  | succ d ih =>
    intro k i hi hk
    obtain ⟨k, rfl⟩ : ∃ m, k = m + 1 := ⟨k - 1, by omega⟩
    rw [laws_eqIntS.l0, if_pos (by omega), if_pos (by omega), if_pos (by omega), if_pos rfl, wsucc (by omega)]
    exact ih k (i + 1) (by omega) (by omega)
theorem eqIntS_refl (l : List Int) (hl : l.length ≤ 4611686018427387904) (k : Nat) (hk : l.length < k) : laws_eqIntS.f k l l = some true := by
  unfold laws_eqIntS.f
  rw [if_pos rfl]
  exact eqIntS_loop l hl l.length k 0 (by omega) hk

def marks (m : Int) (n : Nat) : List Int := (List.range n).map fun j : Nat => m + (j : Int)
theorem marks_len (m : Int) (n : Nat) : (marks m n).length = n := by simp [marks]
theorem markIntS_loop (m : Int) (n : Nat) (hm : -1 ≤ m ∧ m ≤ 2305843009213693952) (hn : n ≤ 2305843009213693952) : ∀ (d k i : Nat) (x : List Int), i + d = n → d < k → x.length = n → (∀ j : Nat, j < i → x[j]? = some (m + (j : Int))) → laws_markIntS.l0 k x (m + (i : Int)) (i : Int) = some (m + (n : Int), marks m n) := by
  intro d
  induction d with
  | zero =>
    intro k i x h1 hk hx he
    obtain ⟨k, rfl⟩ : ∃ m, k = m + 1 := ⟨k - 1, by omega⟩
    rw [laws_markIntS.l0, if_neg (by omega)]
    have e : x = marks m n := by
      apply List.ext_getElem?
      intro j
      by_cases hj : j < n
      · rw [he j (by omega)]; simp [marks, hj]
      · rw [List.getElem?_eq_none (by omega), List.getElem?_eq_none (by rw [marks_len]; omega)]
    rw [e, show i = n by omega]
  | succ d ih =>
    intro k i x h1 hk hx he
    obtain ⟨k, rfl⟩ : ∃ m, k = m + 1 := ⟨k - 1, by omega⟩
    rw [laws_markIntS.l0, if_pos (by omega), if_pos (by omega), wsucc (by omega), w64 (by omega) (by omega), show m + (i : Int) + 1 = m + ((i + 1 : Nat) : Int) by omega]
    refine ih k (i + 1) _ (by omega) (by omega) (by simpa using hx) ?_
    intro j hj
    rw [Int.toNat_natCast, List.getElem?_set]
    by_cases e : i = j
    · subst e; simp [show i < x.length by omega]
    · rw [if_neg e]; exact he j (by omega)
theorem markIntS_eq (l : List Int) (m : Int) (hm : -1 ≤ m ∧ m ≤ 2305843009213693952) (hn : l.length ≤ 2305843009213693952) (k : Nat) (hk : l.length < k) : laws_markIntS.f k l m = some (m + (l.length : Int), marks m l.length) := by
  unfold laws_markIntS.f
  have := markIntS_loop m l.length hm hn l.length k 0 l (by omega) hk rfl (by intro j hj; omega)
  simpa using this

theorem heldIntS_loop (m : Int) (n : Nat) (hm : -1 ≤ m ∧ m ≤ 2305843009213693952) (hn : n ≤ 2305843009213693952) : ∀ (d k i : Nat), i + d = n → d < k → laws_heldIntS.l0 k (marks m n) (m + (i : Int)) (i : Int) = some (m + (n : Int)) := by
  intro d
  have hl := marks_len m n
  induction d with
  | zero =>
    intro k i h1 hk
    obtain ⟨k, rfl⟩ : ∃ m, k = m + 1 := ⟨k - 1, by omega⟩
    rw [laws_heldIntS.l0, if_neg (by omega), show i = n by omega]
  | succ d ih =>
    intro k i h1 hk
    obtain ⟨k, rfl⟩ : ∃ m, k = m + 1 := ⟨k - 1, by omega⟩
    rw [laws_heldIntS.l0, if_pos (by omega), if_pos (by omega), rd_nat (marks m n) i (by omega), if_pos (by simp [marks]), wsucc (by omega), w64 (by omega) (by omega), show m + (i : Int) + 1 = m + ((i + 1 : Nat) : Int) by omega]
    exact ih k (i + 1) (by omega) (by omega)
theorem heldIntS_eq (m : Int) (n : Nat) (hm : -1 ≤ m ∧ m ≤ 2305843009213693952) (hn : n ≤ 2305843009213693952) (k : Nat) (hk : n < k) : laws_heldIntS.f k (marks m n) m = some (m + (n : Int)) := by
  unfold laws_heldIntS.f
  have := heldIntS_loop m n hm hn n k 0 (by omega) hk
  simpa using this

theorem FnExactFromZig : laws_FnExactFromZig.Pure := by
  intro l hm hr hw
  obtain ⟨K, hK⟩ : ∃ K, K = l.length + 400 := ⟨_, rfl⟩
  refine ⟨K + 1, ?_⟩
  unfold laws_FnExactFromZig.f
  by_cases h : (l.length : Int) > 1048576
  · rw [if_pos h]
  rw [if_neg h]
  have e2 := specFromZig_eq l
  have e3 := implFromZig_eq l
  have hrl := fromZigR_len l
  obtain ⟨r, hr⟩ : ∃ r, r = fromZigR l := ⟨_, rfl⟩
  rw [← hr] at e2 e3 hrl
  have e1 := toIntS_eq l (by omega)
  have e4 := eqIntS_refl l (by omega)
  have e5 := eqIntS_refl r (by omega)
  have e6 := markIntS_eq l 1 (by omega) (by omega)
  have e7 := markIntS_eq r 1 (by omega) (by omega)
  have e8 := heldIntS_eq 1 r.length (by omega) (by omega)
  have g1 : ¬ (1 + (l.length : Int) < 0) := by omega
  have g2 : ¬ (1 + (r.length : Int) < 0) := by omega
  simp (disch := omega) only [e1, e2, e3, e4, e5, e6, Option.bind_some, if_true, if_neg g1]
  rw [laws_FnExactFromZig.j0]
  simp (disch := omega) only [e1, e3, e5, e7, e8, Option.bind_some, if_true, if_neg g2, Bool.not_true, Bool.false_eq_true, if_false]

end Go.Proofs.Ytbiamhmjcnmjgaa.Pure
