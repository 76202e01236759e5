/- The pure statement of the law FnZig, for every input that its guards let in. -/
import Derived.Test.YtbiamhmjcnmjgaaPFnZigx4
import Derived.Test.YtbiamhmjcnmjgaaWSized
-- The printed row names this word without its seat: the same fact under that name.
namespace Go.Proofs.PrintWords
theorem sized_ints {H : Type} {enc : TypeId × Value → H} {P : Program} {W : World} {base : Nat} {spare : Nat → Bool} {held : Bool} {t e : TypeId} {k : IntKind} {a : Option Addr} {len cap : Nat} {d : DataW H} {ps : List MemPlace} {ts : List TypeId} {ds : List (DataW H)} {j : Nat} (hsz : (DataW.weightsEach P ts ds).all (· ≤ reachBytes) = true) (ht : ts[j]? = some t) (hd : ds[j]? = some d) (hu : P.underlying t = some (.slice e)) (he : P.underlying e = some (.int k)) (hc : P.cellsOf e = 1) {B : Nat} (hB : P.bytesOf e = B) (h : DataW.Trod enc P W base spare held t (.slice a len cap) d ps) : len * B ≤ 140737488351232 := Go.Proofs.YtbiamhmjcnmjgaaW.PrintWords.sized_ints hsz ht hd hu he hc hB h
end Go.Proofs.PrintWords
namespace Go.Proofs.Ytbiamhmjcnmjgaa.Pure
open Go.RowKit Go.Proofs.Ytbiamhmjcnmjgaa.PFnZig Go.Proofs.YtbiamhmjcnmjgaaW.PrintWords Go.Proofs.YtbiamhmjcnmjgaaW.PrintLast Go.Proofs.YtbiamhmjcnmjgaaW.PrintMore
set_option linter.unusedVariables false
set_option linter.unusedSimpArgs false
set_option maxRecDepth 4000

theorem w64 {x : Int} (h1 : -9223372036854775808 ≤ x) (h2 : x ≤ 9223372036854775807) : wrap64 x = x := by unfold wrap64; omega
theorem wsucc {i : Nat} (h : i ≤ 4611686018427387904) : wrap64 ((i : Int) + 1) = ((i + 1 : Nat) : Int) := by unfold wrap64; omega
theorem rd_nat (l : List Int) (i : Nat) (h : i < l.length) : rd l (i : Int) = l[i] := by simp [rd, List.getD_eq_getElem?_getD, h]
theorem drop_at {α : Type} (l : List α) (i : Nat) (h : i < l.length) : l.drop i = l[i] :: l.drop (i + 1) := List.drop_eq_getElem_cons h
theorem wf64 {x : Int} (h : (Lit.int .i64 x).wf = true) : -9223372036854775808 ≤ x ∧ x ≤ 9223372036854775807 := by
  simp [Lit.wf, IntKind.min, IntKind.max, IntKind.bits, IntKind.signed] at h; omega
theorem wfu8 {x : Int} (h : (Lit.int .u8 x).wf = true) : 0 ≤ x ∧ x ≤ 255 := by
  simp [Lit.wf, IntKind.min, IntKind.max, IntKind.bits, IntKind.signed] at h; omega

def inR (lo hi : Int) (l : List Int) : Bool := l.all fun x => decide (lo ≤ x ∧ x ≤ hi)
theorem inR_nil (lo hi : Int) : inR lo hi [] = true := rfl
theorem inR_cons (lo hi x : Int) (l : List Int) : inR lo hi (x :: l) = (decide (lo ≤ x ∧ x ≤ hi) && inR lo hi l) := rfl
theorem inR_at {lo hi : Int} {l : List Int} (h : inR lo hi l = true) (i : Nat) (hi' : i < l.length) : lo ≤ l[i] ∧ l[i] ≤ hi := by
  unfold inR at h; rw [List.all_eq_true] at h; simpa using h l[i] (List.getElem_mem hi')

theorem rd_getD (l : List Int) (i : Nat) : rd l (i : Int) = l.getD i 0 := by simp [rd]
theorem push_loop {α β : Type} (F : Nat → List α → Int → Option β) (g : Nat → α) (n : Nat) (res : β)
    (hstep : ∀ (k i : Nat) (a : List α), i < n → a.length = i → F (k + 1) a (i : Int) = F k (a ++ [g i]) ((i + 1 : Nat) : Int))
    (hend : ∀ k : Nat, F (k + 1) ((List.range n).map g) (n : Int) = some res) : ∀ k : Nat, n < k → F k [] 0 = some res := by
  have main : ∀ (d k i : Nat), i + d = n → d < k → F k ((List.range i).map g) (i : Int) = some res := by
    intro d
    induction d with
    | zero =>
      intro k i h1 hk
      obtain ⟨k, rfl⟩ : ∃ m, k = m + 1 := ⟨k - 1, by omega⟩
      obtain rfl : i = n := by omega
      exact hend k
    | succ d ih =>
      intro k i h1 hk
      obtain ⟨k, rfl⟩ : ∃ m, k = m + 1 := ⟨k - 1, by omega⟩
      rw [hstep k i _ (by omega) (by simp)]
      have e : (List.range (i + 1)).map g = (List.range i).map g ++ [g i] := by rw [List.range_succ, List.map_append]; rfl
      rw [← e]
      exact ih k (i + 1) (by omega) (by omega)
  intro k hk
  exact main n k 0 (by omega) hk
theorem state_loop {σ β : Type} (F : Nat → σ → Int → Option β) (s : Nat → σ) (n : Nat) (res : β)
    (hstep : ∀ (k i : Nat), i < n → F (k + 1) (s i) (i : Int) = F k (s (i + 1)) ((i + 1 : Nat) : Int))
    (hend : ∀ k : Nat, F (k + 1) (s n) (n : Int) = some res) : ∀ k : Nat, n < k → F k (s 0) 0 = some res := by
  have main : ∀ (d k i : Nat), i + d = n → d < k → F k (s i) (i : Int) = some res := by
    intro d
    induction d with
    | zero =>
      intro k i h1 hk
      obtain ⟨k, rfl⟩ : ∃ m, k = m + 1 := ⟨k - 1, by omega⟩
      obtain rfl : i = n := by omega
      exact hend k
    | succ d ih =>
      intro k i h1 hk
      obtain ⟨k, rfl⟩ : ∃ m, k = m + 1 := ⟨k - 1, by omega⟩
      rw [hstep k i (by omega)]
      exact ih k (i + 1) (by omega) (by omega)
  intro k hk
  exact main n k 0 (by omega) hk
theorem inR_getD {lo hi : Int} {l : List Int} (h : inR lo hi l = true) (i : Nat) (h' : i < l.length) : lo ≤ l.getD i 0 ∧ l.getD i 0 ≤ hi := by
  have := inR_at h i h'
  simpa [List.getD_eq_getElem?_getD, h'] using this

def zig : List Int := [0, 1, 8, 16, 9, 2, 3, 10, 17, 24, 32, 25, 18, 11, 4, 5, 12, 19, 26, 33, 40, 48, 41, 34, 27, 20, 13, 6, 7, 14, 21, 28, 35, 42, 49, 56, 57, 50, 43, 36, 29, 22, 15, 23, 30, 37, 44, 51, 58, 59, 52, 45, 38, 31, 39, 46, 53, 60, 61, 54, 47, 55, 62, 63]
theorem zig_len : zig.length = 64 := rfl
theorem zig_at (i : Nat) (h : i < 64) : 0 ≤ zig.getD i 0 ∧ zig.getD i 0 < 64 := by
  have : ∀ j : Fin 64, 0 ≤ zig.getD j.val 0 ∧ zig.getD j.val 0 < 64 := by decide +kernel
  exact this ⟨i, h⟩

theorem specZigZag_eq (k : Nat) (hk : 300 ≤ k) : spec_ZigZag.f k = some zig := at_rounds spec_ZigZag.mono hk (by decide +kernel : spec_ZigZag.f 300 = some zig)

theorem implzigZag_eq (k : Nat) (hk : 300 ≤ k) : impl_zigZag.f k = some zig := at_rounds impl_zigZag.mono hk (by decide +kernel : impl_zigZag.f 300 = some zig)

theorem between_eq (a lo hi : Int) : spec_l01Between.f a lo hi = some (decide (lo ≤ a ∧ a ≤ hi)) := by
  unfold spec_l01Between.f
  by_cases h : a ≥ lo
  · rw [if_pos h]; congr 1; simp; omega
  · rw [if_neg h]; congr 1; simp; omega

theorem nums5_loop (l : List Int) (lo hi : Int) (hl : l.length = 64) : ∀ (d k i : Nat), i + d = 64 → d < k → spec_l05Nums.l0 k l lo hi (i : Int) = some (inR lo hi (l.drop i)) := by
  intro d
  induction d with
  | zero =>
    intro k i h1 hk
    obtain ⟨k, rfl⟩ : ∃ m, k = m + 1 := ⟨k - 1, by omega⟩
    rw [spec_l05Nums.l0, if_neg (by omega), List.drop_eq_nil_of_le (by omega), inR_nil]
  | succ d ih =>
    intro k i h1 hk
    obtain ⟨k, rfl⟩ : ∃ m, k = m + 1 := ⟨k - 1, by omega⟩
    rw [spec_l05Nums.l0, if_pos (by omega), if_pos (by omega), if_pos (by omega), between_eq, rd_nat l i (by omega), wsucc (by omega), ih k (i + 1) (by omega) (by omega), drop_at l i (by omega), inR_cons]
    simp only [Option.bind_some]
    by_cases h : lo ≤ l[i] ∧ l[i] ≤ hi <;> simp [h]
theorem nums5_eq (l : List Int) (lo hi : Int) (k : Nat) (hk : 64 < k) : spec_l05Nums.f k l lo hi = some (decide (l.length = 64) && inR lo hi l) := by
  unfold spec_l05Nums.f
  by_cases h : l.length = 64
  · have e : spec_l05Nums.l0 k l lo hi 0 = some (inR lo hi (l.drop 0)) := nums5_loop l lo hi h 64 k 0 (by omega) hk
    rw [if_pos (by omega), e]; simp [h]
  · rw [if_neg (by omega)]; simp [h]

theorem within_eq (a lo hi : Int) : impl_within.f a lo hi = some (decide (lo ≤ a ∧ a ≤ hi)) := by
  unfold impl_within.f
  by_cases h : a ≥ lo
  · rw [if_pos h]; congr 1; simp; omega
  · rw [if_neg h]; congr 1; simp; omega

theorem allWithin_loop (l : List Int) (lo hi : Int) (hl : l.length ≤ 4611686018427387904) : ∀ (d k i : Nat), i + d = l.length → d < k → impl_allWithin.l0 k lo hi l (l.length : Int) (i : Int) = some (inR lo hi (l.drop i)) := by
  intro d
  induction d with
  | zero =>
    intro k i h1 hk
    obtain ⟨k, rfl⟩ : ∃ m, k = m + 1 := ⟨k - 1, by omega⟩
    rw [impl_allWithin.l0, if_neg (by omega), List.drop_eq_nil_of_le (by omega), inR_nil]
  | succ d ih =>
    intro k i h1 hk
    obtain ⟨k, rfl⟩ : ∃ m, k = m + 1 := ⟨k - 1, by omega⟩
    rw [impl_allWithin.l0, if_pos (by omega), if_pos (by omega), if_pos (by omega), within_eq, rd_nat l i (by omega), wsucc (by omega), ih k (i + 1) (by omega) (by omega), drop_at l i (by omega), inR_cons]
    simp only [Option.bind_some]
    by_cases h : lo ≤ l[i] ∧ l[i] ≤ hi <;> simp [h]
theorem allWithin_eq (l : List Int) (lo hi : Int) (hl : l.length ≤ 4611686018427387904) (k : Nat) (hk : l.length < k) : impl_allWithin.f k l lo hi = some (inR lo hi l) := by
  unfold impl_allWithin.f
  exact allWithin_loop l lo hi hl l.length k 0 (by omega) hk

def okL (lo hi : Int) (l : List Int) : Bool := decide (l.length = 64) && inR lo hi l
theorem okL_iff {lo hi : Int} {l : List Int} : okL lo hi l = true ↔ l.length = 64 ∧ inR lo hi l = true := by simp [okL]

theorem specBlockOk_eq (l : List Int) (k : Nat) (hk : 64 < k) : spec_BlockOk.f k l = some (okL (-32767) 32767 l) := by
  unfold spec_BlockOk.f; rw [nums5_eq l _ _ k hk]; rfl

theorem implBlockOk_eq (l : List Int) (k : Nat) (hk : 64 < k) : impl_BlockOk.f k l = some (okL (-32767) 32767 l) := by
  unfold impl_BlockOk.f okL
  by_cases h : l.length = 64
  · rw [if_pos (by omega), allWithin_eq l _ _ (by omega) k (by omega)]; simp [h]
  · rw [if_neg (by omega)]; simp [h]

theorem rd_zig (l : List Int) (i : Nat) (h : i < 64) : rd l (zig.getD i 0) = l.getD (zig.getD i 0).toNat 0 := rfl
def toZigL (l : List Int) : List Int := (List.range 64).map fun i => l.getD (zig.getD i 0).toNat 0
theorem specToZig_loop (l : List Int) (hl : l.length = 64) (k : Nat) (hk : 64 < k) : spec_ToZig.l0 k l [] zig 0 = some (toZigL l) := by
  have hz := zig_len
  refine push_loop (fun k a i => spec_ToZig.l0 k l a zig i) (fun i => l.getD (zig.getD i 0).toNat 0) 64 _ ?_ ?_ k hk
  · intro k i a hi ha
    show spec_ToZig.l0 (k + 1) l a zig i = _
    have b1 := zig_at i hi
    rw [spec_ToZig.l0, if_pos (by omega), if_pos (by omega), if_pos (by omega), rd_getD, if_pos b1.1, if_pos (by omega), if_pos (by omega), rd_zig l i hi, wsucc (by omega)]
  · intro k
    show spec_ToZig.l0 (k + 1) l _ zig _ = _
    rw [spec_ToZig.l0, if_neg (by omega)]; rfl
theorem impltoZig_loop (l : List Int) (hl : l.length = 64) (k : Nat) (hk : 64 < k) : impl_toZig.l0 k l [] zig (zig.length : Int) 0 = some (toZigL l) := by
  have hz := zig_len
  refine push_loop (fun k a i => impl_toZig.l0 k l a zig (zig.length : Int) i) (fun i => l.getD (zig.getD i 0).toNat 0) 64 _ ?_ ?_ k hk
  · intro k i a hi ha
    show impl_toZig.l0 (k + 1) l a zig _ i = _
    have b1 := zig_at i hi
    rw [impl_toZig.l0, if_pos (by omega), if_pos (by omega), if_pos (by omega), rd_getD, if_pos b1.1, if_pos (by omega), if_pos (by omega), rd_zig l i hi, wsucc (by omega)]
  · intro k
    show impl_toZig.l0 (k + 1) l _ zig _ _ = _
    rw [impl_toZig.l0, if_neg (by omega)]; rfl
def toZigR (l : List Int) : List Int := if okL (-32767) 32767 l then toZigL l else []
theorem toZigR_len (l : List Int) : (toZigR l).length ≤ 64 := by unfold toZigR; split <;> simp [toZigL]
theorem specToZig_eq (l : List Int) (k : Nat) (hk : 300 < k) : spec_ToZig.f k l = some (toZigR l) := by
  unfold spec_ToZig.f toZigR
  rw [Option.bind_some, specBlockOk_eq l _ (by omega), Option.bind_some]
  by_cases h : okL (-32767) 32767 l = true
  · rw [if_pos h, if_pos h, specZigZag_eq k (by omega), Option.bind_some]
    exact specToZig_loop l (okL_iff.1 h).1 k (by omega)
  · rw [if_neg h, if_neg h]
theorem implToZig_eq (l : List Int) (k : Nat) (hk : 300 < k) : impl_ToZig.f k l = some (toZigR l) := by
  unfold impl_ToZig.f toZigR impl_toZig.f
  rw [implBlockOk_eq l _ (by omega), Option.bind_some]
  by_cases h : okL (-32767) 32767 l = true
  · rw [if_pos h, if_pos h, implzigZag_eq k (by omega), Option.bind_some, impltoZig_loop l (okL_iff.1 h).1 k (by omega)]; rfl
  · rw [if_neg h, if_neg h]

def frS (l : List Int) : Nat → List Int
  | 0 => List.replicate 64 0
  | i + 1 => (frS l i).set (zig.getD i 0).toNat (l.getD i 0)
theorem frS_len (l : List Int) : ∀ i : Nat, (frS l i).length = 64
  | 0 => by simp [frS]
  | i + 1 => by rw [frS, List.length_set, frS_len l i]
theorem implfromZig_loop (l : List Int) (hl : l.length = 64) (k : Nat) (hk : 64 < k) : impl_fromZig.l0 k l (List.replicate 64 0) zig (zig.length : Int) 0 = some (frS l 64) := by
  have hz := zig_len
  refine state_loop (fun k a i => impl_fromZig.l0 k l a zig (zig.length : Int) i) (frS l) 64 _ ?_ ?_ k hk
  · intro k i hi
    show impl_fromZig.l0 (k + 1) l (frS l i) zig _ i = _
    have b1 := zig_at i hi
    have b2 := frS_len l i
    rw [impl_fromZig.l0, if_pos (by omega), if_pos (by omega), if_pos (by omega), if_pos (by omega), rd_getD, rd_getD, if_pos b1.1, if_pos (by omega), wsucc (by omega)]
    rfl
  · intro k
    show impl_fromZig.l0 (k + 1) l _ zig _ _ = _
    rw [impl_fromZig.l0, if_neg (by omega)]
def fromZigR (l : List Int) : List Int := if okL (-32767) 32767 l then frS l 64 else []
theorem fromZigR_len (l : List Int) : (fromZigR l).length ≤ 64 := by unfold fromZigR; split <;> simp [frS_len]
theorem implFromZig_eq (l : List Int) (k : Nat) (hk : 300 < k) : impl_FromZig.f k l = some (fromZigR l) := by
  unfold impl_FromZig.f fromZigR impl_fromZig.f
  rw [implBlockOk_eq l _ (by omega), Option.bind_some]
  by_cases h : okL (-32767) 32767 l = true
  · rw [if_pos h, if_pos h, if_pos (by omega), implzigZag_eq k (by omega), Option.bind_some, implfromZig_loop l (okL_iff.1 h).1 k (by omega)]; rfl
  · rw [if_neg h, if_neg h]

theorem tdw {x y : Int} (h0 : 0 ≤ x) (h1 : x ≤ 4611686018427387904) (hy : 0 < y) : wrap64 (Int.tdiv x y) = x / y := by
  rw [Int.tdiv_eq_ediv_of_nonneg h0]
  have a := Int.ediv_nonneg h0 (Int.le_of_lt hy)
  have b := Int.ediv_le_self y h0
  exact w64 (by omega) (by omega)
theorem div_bd {x y : Int} (h0 : 0 ≤ x) (hy : 0 < y) : 0 ≤ x / y ∧ x / y ≤ x := ⟨Int.ediv_nonneg h0 (Int.le_of_lt hy), Int.ediv_le_self y h0⟩

def BytesL (l : List Int) : Prop := l.length ≤ 1048576 ∧ ∀ x ∈ l, 0 ≤ x ∧ x ≤ 255
theorem rd_byte {l : List Int} (h : BytesL l) (i : Int) (h0 : 0 ≤ i) (h1 : i < (l.length : Int)) : 0 ≤ rd l i ∧ rd l i ≤ 255 := by
  obtain ⟨n, rfl⟩ := Int.eq_ofNat_of_zero_le h0
  have hn : n < l.length := by omega
  rw [rd_nat l n hn]
  exact h.2 _ (List.getElem_mem hn)
def CurOk (a s b : Int) : Prop := 0 ≤ a ∧ a ≤ b ∧ b ≤ 1152921504606846976 ∧ 0 ≤ s ∧ s ≤ 65521
theorem tmodw {x y : Int} (h0 : 0 ≤ x) (hy : 0 < y) : 0 ≤ Int.tmod x y ∧ Int.tmod x y < y := by
  rw [Int.tmod_eq_emod_of_nonneg h0]
  exact ⟨Int.emod_nonneg _ (by omega), Int.emod_lt_of_pos _ hy⟩
theorem pick_ok {l : List Int} (hl : BytesL l) {a s b : Int} (n : Int) (hc : CurOk a s b) (hb : b + 2 ≤ 1152921504606846976) (hn : 1 ≤ n) : ∃ r a' s', spec_l01Cur_pick.f l a s n = some (r, a', s') ∧ 0 ≤ r ∧ r < n ∧ CurOk a' s' (b + 2) := by
  obtain ⟨h1, h2, h3, h4, h5⟩ := hc
  have hll := hl.1
  unfold spec_l01Cur_pick.f
  by_cases c1 : n < 2
  · exact ⟨0, a, s, by rw [if_pos c1], by omega, by omega, by omega, by omega, hb, h4, h5⟩
  rw [if_neg c1]
  by_cases c2 : a < (l.length : Int)
  · rw [if_pos c2, if_pos h1, w64 (x := a + 1) (by omega) (by omega)]
    have r1 := rd_byte hl a h1 c2
    have t1 := tmodw (x := rd l a) (y := n) (by omega) (by omega)
    by_cases c3 : n > 256
    · rw [if_pos c3]
      by_cases c4 : a + 1 < (l.length : Int)
      · have r2 := rd_byte hl (a + 1) (by omega) c4
        have t2 := tmodw (x := 256 * rd l a + rd l (a + 1)) (y := n) (by omega) (by omega)
        rw [if_pos c4, if_pos (by omega), if_neg (by omega)]
        refine ⟨_, _, _, rfl, ?_, ?_, ?_⟩
        · rw [w64 (x := rd l a) (by omega) (by omega), w64 (x := 256 * rd l a) (by omega) (by omega), w64 (x := rd l (a + 1)) (by omega) (by omega), w64 (by omega) (by omega)]; exact t2.1
        · rw [w64 (x := rd l a) (by omega) (by omega), w64 (x := 256 * rd l a) (by omega) (by omega), w64 (x := rd l (a + 1)) (by omega) (by omega), w64 (by omega) (by omega)]; exact t2.2
        · rw [w64 (x := a + 1 + 1) (by omega) (by omega)]; exact ⟨by omega, by omega, hb, h4, h5⟩
      · rw [if_neg c4, if_neg (by omega), w64 (x := rd l a) (by omega) (by omega)]
        exact ⟨_, _, _, rfl, t1.1, t1.2, by omega, by omega, hb, h4, h5⟩
    · rw [if_neg c3, if_neg (by omega), w64 (x := rd l a) (by omega) (by omega)]
      exact ⟨_, _, _, rfl, t1.1, t1.2, by omega, by omega, hb, h4, h5⟩
  · rw [if_neg c2, w64 (x := s * 1103) (by omega) (by omega), w64 (x := s * 1103 + 12345) (by omega) (by omega), w64 (x := a + 1) (by omega) (by omega)]
    have t3 := tmodw (x := s * 1103 + 12345) (y := 65521) (by omega) (by omega)
    rw [tdw (x := Int.tmod (s * 1103 + 12345) 65521) (by omega) (by omega) (by omega)]
    have d3 := div_bd (x := Int.tmod (s * 1103 + 12345) 65521) (y := 3) (by omega) (by omega)
    by_cases c5 : (l.length : Int) > 0
    · have t4 := tmodw (x := a) (y := (l.length : Int)) h1 c5
      have r4 := rd_byte hl (Int.tmod a (l.length : Int)) t4.1 t4.2
      rw [if_pos c5, if_neg (by omega), if_pos t4.1, if_pos t4.2, if_neg (by omega), w64 (x := rd l (Int.tmod a (l.length : Int))) (by omega) (by omega), w64 (x := Int.tmod (s * 1103 + 12345) 65521 / 3 + rd l (Int.tmod a (l.length : Int))) (by omega) (by omega)]
      have t5 := tmodw (x := Int.tmod (s * 1103 + 12345) 65521 / 3 + rd l (Int.tmod a (l.length : Int))) (y := n) (by omega) (by omega)
      exact ⟨_, _, _, rfl, t5.1, t5.2, by omega, by omega, hb, t3.1, by omega⟩
    · rw [if_neg c5, if_neg (by omega)]
      have t5 := tmodw (x := Int.tmod (s * 1103 + 12345) 65521 / 3) (y := n) (by omega) (by omega)
      exact ⟨_, _, _, rfl, t5.1, t5.2, by omega, by omega, hb, t3.1, by omega⟩
theorem open_ok {l : List Int} (hl : BytesL l) : ∃ s, spec_l01Open.f l = some (l, 0, s) ∧ CurOk 0 s 0 := by
  refine ⟨13 + ((l.length : Int) % 1000), rfl, by omega, by omega, by omega, by omega, by omega⟩

theorem once_ok {l : List Int} (hl : BytesL l) {a s b : Int} (n : Int) (hc : CurOk a s b) (hb : b + 2 ≤ 1152921504606846976) (hn : 1 ≤ n) : ∃ r a' s', spec_l01Cur_once.f l a s n = some (r, a', s') ∧ CurOk a' s' (b + 2) := by
  obtain ⟨r, a', s', h, _, _, h'⟩ := pick_ok hl n hc hb hn
  unfold spec_l01Cur_once.f
  rw [h]
  exact ⟨_, _, _, rfl, h'⟩

def oddsL : List Int := [(-1), 0, 1, 2, 255, 256, 65535, 9223372036854775807, (-9223372036854775808), 17, 8, 12]
theorem odd_ok {l : List Int} (hl : BytesL l) {a s b : Int} (hc : CurOk a s b) (hb : b + 2 ≤ 1152921504606846976) : ∃ r a' s', spec_l01Cur_odd.f l a s = some (r, a', s') ∧ (-9223372036854775808 ≤ r ∧ r ≤ 9223372036854775807) ∧ CurOk a' s' (b + 2) := by
  obtain ⟨r, a', s', h, h0, h1, h'⟩ := pick_ok hl 12 hc hb (by omega)
  unfold spec_l01Cur_odd.f
  rw [Option.bind_some, h, Option.bind_some]
  show ∃ r0 a0 s0, (if 0 ≤ r then if r < (oddsL.length : Int) then some (rd oddsL r, a', s') else none else none) = _ ∧ _
  rw [if_pos h0, if_pos (show r < (oddsL.length : Int) by simp [oddsL]; omega)]
  refine ⟨_, _, _, rfl, ?_, h'⟩
  obtain ⟨n, rfl⟩ := Int.eq_ofNat_of_zero_le h0
  have key : ∀ j : Fin 12, -9223372036854775808 ≤ oddsL.getD j.val 0 ∧ oddsL.getD j.val 0 ≤ 9223372036854775807 := by decide +kernel
  rw [rd_getD]
  exact key ⟨n, by omega⟩

theorem clipG (a lo hi : Int) : spec_l05Clip.f a lo hi = some (if a < lo then lo else if a > hi then hi else a) := by
  unfold spec_l05Clip.f; (repeat' split) <;> rfl

theorem drawBlock_loop {l : List Int} (hl : BytesL l) (m : Int) (hm : 0 ≤ m ∧ m ≤ 100000) : ∀ (d : Nat) (k : Nat) (o : List Int) (i a s b : Int), d < k → i + d = 64 → (o.length : Int) = i → CurOk a s b → b + 8 * d ≤ 1152921504606846976 → (∀ x ∈ o, -m ≤ x ∧ x ≤ m) → ∃ o' a' s', spec_l05DrawBlock.l0 k m o i l a s = some (o', a', s') ∧ o'.length = 64 ∧ (∀ x ∈ o', -m ≤ x ∧ x ≤ m) ∧ CurOk a' s' (b + 8 * d) := by
  intro d
  induction d with
  | zero =>
    intro k o i a s b hk hi ho hc hb hr
    obtain ⟨k, rfl⟩ : ∃ m, k = m + 1 := ⟨k - 1, by omega⟩
    exact ⟨o, a, s, by rw [spec_l05DrawBlock.l0, if_neg (by omega)], by omega, hr, by rw [show b + 8 * ((0 : Nat) : Int) = b by omega]; exact hc⟩
  | succ d ih =>
    intro k o i a s b hk hi ho hc hb hr
    obtain ⟨k, rfl⟩ : ∃ m, k = m + 1 := ⟨k - 1, by omega⟩
    have done : ∀ (v a0 s0 : Int), CurOk a0 s0 (b + 8) → -m ≤ v ∧ v ≤ m → ∃ o' a' s', spec_l05DrawBlock.l0 k m (o ++ [v]) (wrap64 (i + 1)) l a0 s0 = some (o', a', s') ∧ o'.length = 64 ∧ (∀ x ∈ o', -m ≤ x ∧ x ≤ m) ∧ CurOk a' s' (b + 8 * ((d + 1 : Nat) : Int)) := by
      intro v a0 s0 hc0 hv
      rw [w64 (by omega) (by omega), show b + 8 * ((d + 1 : Nat) : Int) = b + 8 + 8 * (d : Int) by omega]
      exact ih k (o ++ [v]) (i + 1) a0 s0 (b + 8) (by omega) (by omega) (by simp; omega) hc0 (by omega) (by
        intro x hx
        rcases List.mem_append.1 hx with hx | hx
        · exact hr x hx
        · rw [List.mem_singleton.1 hx]; exact hv)
    have up : ∀ a0 s0 b0 : Int, CurOk a0 s0 b0 → b0 ≤ b + 8 → CurOk a0 s0 (b + 8) := fun a0 s0 b0 ⟨h1, h2, h3, h4, h5⟩ h => ⟨h1, by omega, by omega, h4, h5⟩
    have clipB : ∀ v : Int, -m ≤ (if v < -m then -m else if v > m then m else v) ∧ (if v < -m then -m else if v > m then m else v) ≤ m := by
      intro v; (repeat' split) <;> omega
    rw [spec_l05DrawBlock.l0, if_pos (by omega), w64 (x := -m) (by omega) (by omega), w64 (x := 2 * m) (by omega) (by omega), w64 (x := 2 * m + 1) (by omega) (by omega)]
    obtain ⟨r1, a1, s1, e1, p1, q1, c1⟩ := pick_ok hl 4 hc (by omega) (by omega)
    simp only [e1, Option.bind_some]
    by_cases h1 : r1 = 0
    · rw [if_pos h1]
      obtain ⟨r2, a2, s2, e2, p2, q2, c2⟩ := pick_ok hl (2 * m + 1) c1 (by omega) (by omega)
      simp only [e2, Option.bind_some]
      obtain ⟨r3, a3, s3, e3, c3⟩ := once_ok hl 2 c2 (by omega) (by omega)
      simp only [e3, Option.bind_some]
      by_cases h3 : r3 = true
      · rw [if_pos h3]
        obtain ⟨r4, a4, s4, e4, p4, q4, c4⟩ := pick_ok hl 9 c3 (by omega) (by omega)
        simp only [e4, Option.bind_some, clipG]
        rw [if_pos (by omega)]
        exact done _ a4 s4 (up _ _ _ c4 (by omega)) (clipB _)
      · rw [if_neg h3]
        simp only [clipG, Option.bind_some]
        rw [if_pos (by omega)]
        exact done _ a3 s3 (up _ _ _ c3 (by omega)) (clipB _)
    · rw [if_neg h1]
      simp only [clipG, Option.bind_some]
      rw [if_pos (by omega)]
      exact done _ a1 s1 (up _ _ _ c1 (by omega)) (clipB _)
theorem drawBlock_ok {l : List Int} (hl : BytesL l) (m : Int) (hm : 0 ≤ m ∧ m ≤ 100000) {a s b : Int} (hc : CurOk a s b) (hb : b + 512 ≤ 1152921504606846976) (k : Nat) (hk : 64 < k) : ∃ o a' s', spec_l05DrawBlock.f k l a s m = some (o, a', s') ∧ o.length = 64 ∧ (∀ x ∈ o, -m ≤ x ∧ x ≤ m) ∧ CurOk a' s' (b + 512) := by
  unfold spec_l05DrawBlock.f
  exact drawBlock_loop hl m hm 64 k [] 0 a s b hk (by omega) (by simp) hc (by omega) (by simp)

theorem drawAny_ok {l : List Int} (hl : BytesL l) (m : Int) (hm : 0 ≤ m ∧ m ≤ 100000) {a s b : Int} (hc : CurOk a s b) (hb : b + 1000 ≤ 1152921504606846976) (k : Nat) (hk : 64 < k) : ∃ o a' s', spec_l05DrawAny.f k l a s m = some (o, a', s') ∧ o.length ≤ 65 ∧ CurOk a' s' (b + 520) := by
  unfold spec_l05DrawAny.f
  obtain ⟨o, a1, s1, e1, g1, _, c1⟩ := drawBlock_ok hl m hm hc (by omega) k hk
  have up : ∀ a0 s0 b0 : Int, CurOk a0 s0 b0 → b0 ≤ b + 520 → CurOk a0 s0 (b + 520) := fun a0 s0 b0 ⟨h1, h2, h3, h4, h5⟩ h => ⟨h1, by omega, by omega, h4, h5⟩
  rw [e1, Option.bind_some]
  obtain ⟨r2, a2, s2, e2, p2, q2, c2⟩ := pick_ok hl 12 c1 (by omega) (by omega)
  simp only [e2, Option.bind_some]
  by_cases h1 : r2 = 0
  · rw [if_pos h1]
    obtain ⟨r3, a3, s3, e3, p3, q3, c3⟩ := pick_ok hl 64 c2 (by omega) (by omega)
    simp only [e3, Option.bind_some]
    obtain ⟨r4, a4, s4, e4, _, c4⟩ := odd_ok hl c3 (by omega)
    simp only [e4, Option.bind_some]
    obtain ⟨r5, a5, s5, e5, p5, q5, c5⟩ := pick_ok hl 5 c4 (by omega) (by omega)
    simp only [e5, Option.bind_some]
    rw [if_pos p5, if_pos (by simpa using q5), if_pos p3, if_pos (by omega)]
    exact ⟨_, _, _, rfl, by simp; omega, up _ _ _ c5 (by omega)⟩
  · rw [if_neg h1]
    by_cases h2 : r2 = 1
    · rw [if_pos h2, if_pos (by omega)]
      exact ⟨_, _, _, rfl, by simp; omega, up _ _ _ c2 (by omega)⟩
    · rw [if_neg h2]
      by_cases h3 : r2 = 2
      · rw [if_pos h3]
        obtain ⟨r3, a3, s3, e3, p3, q3, c3⟩ := pick_ok hl 64 c2 (by omega) (by omega)
        simp only [e3, Option.bind_some]
        rw [if_pos p3, if_pos (by omega)]
        exact ⟨_, _, _, rfl, by simp; omega, up _ _ _ c3 (by omega)⟩
      · rw [if_neg h3]
        exact ⟨_, _, _, rfl, by omega, up _ _ _ c2 (by omega)⟩

theorem sameInts_loop (l : List Int) (hl : l.length ≤ 4611686018427387904) : ∀ (d k i : Nat), i + d = l.length → d < k → laws_sameInts.l0 k l l (i : Int) = some true := by
  intro d
  induction d with
  | zero =>
    intro k i hi hk
    obtain ⟨k, rfl⟩ : ∃ m, k = m + 1 := ⟨k - 1, by omega⟩
    rw [laws_sameInts.l0, if_neg (by omega)]
  | succ d ih =>
    intro k i hi hk
    obtain ⟨k, rfl⟩ : ∃ m, k = m + 1 := ⟨k - 1, by omega⟩
    rw [laws_sameInts.l0, if_pos (by omega), if_pos (by omega), if_pos (by omega), if_pos rfl, wsucc (by omega)]
    exact ih k (i + 1) (by omega) (by omega)
theorem sameInts_refl (l : List Int) (hl : l.length ≤ 4611686018427387904) (k : Nat) (hk : l.length < k) : laws_sameInts.f k l l = some true := by
  unfold laws_sameInts.f
  rw [if_pos rfl]
  exact sameInts_loop l hl l.length k 0 (by omega) hk

theorem big_no {l : List Int} (h : ¬ (l.length : Int) > 1048576) : laws_big.f l = some false := by unfold laws_big.f; rw [decide_eq_false h]
theorem big_yes {l : List Int} (h : (l.length : Int) > 1048576) : laws_big.f l = some true := by unfold laws_big.f; rw [decide_eq_true h]
theorem bytes_of {l : List Int} (h : ¬ (l.length : Int) > 1048576) (hw : ∀ x ∈ l, (Lit.int .u8 x).wf = true) : BytesL l := ⟨by omega, fun x hx => wfu8 (hw x hx)⟩

theorem list64 (b : List Int) (h : b.length = 64) : b = (List.range 64).map fun i => b.getD i 0 := by
  apply List.ext_getElem?
  intro j
  by_cases hj : j < 64
  · simp [hj, List.getD_eq_getElem?_getD, List.getElem?_eq_getElem (show j < b.length by omega)]
  · rw [List.getElem?_eq_none (by omega), List.getElem?_eq_none (by simp; omega)]
theorem inR_map {lo hi : Int} (f : Nat → Int) (h : ∀ i, i < 64 → lo ≤ f i ∧ f i ≤ hi) : okL lo hi ((List.range 64).map f) = true := by
  rw [okL_iff]
  refine ⟨by simp, ?_⟩
  unfold inR
  rw [List.all_eq_true]
  intro x hx
  obtain ⟨i, hi, rfl⟩ := List.mem_map.1 hx
  simpa using h i (List.mem_range.1 hi)
theorem to_from (b : List Int) (h : b.length = 64) : frS (toZigL b) 64 = b := by
  have e : frS (toZigL b) 64 = (List.range 64).map fun i => b.getD i 0 := by kernel_rfl
  rw [e, ← list64 b h]
theorem from_to (b : List Int) (h : b.length = 64) : toZigL (frS b 64) = b := by
  have e : toZigL (frS b 64) = (List.range 64).map fun i => b.getD i 0 := by kernel_rfl
  rw [e, ← list64 b h]
def unzig : List Int := (List.range 64).map fun j : Nat => ((zig.findIdx fun x => x == (j : Int) : Nat) : Int)
theorem frS_map (b : List Int) : frS b 64 = (List.range 64).map fun j => b.getD (unzig.getD j 0).toNat 0 := by kernel_rfl
theorem unzig_at (i : Nat) (h : i < 64) : (unzig.getD i 0).toNat < 64 := by
  have : ∀ j : Fin 64, (unzig.getD j.val 0).toNat < 64 := by decide +kernel
  exact this ⟨i, h⟩
theorem FnZig : laws_FnZig.Pure := by
  intro l hm hr hw
  unfold laws_FnZig.f
  by_cases hbig : (l.length : Int) > 1048576
  · exact ⟨0, by rw [big_yes hbig]; rfl⟩
  rw [big_no hbig]
  have hl := bytes_of hbig hw
  obtain ⟨s0, e0, c0⟩ := open_ok hl
  obtain ⟨K, hK⟩ : ∃ K, K = 1000 := ⟨_, rfl⟩
  refine ⟨K + 1, ?_⟩
  obtain ⟨b, a1, s1, e1, p1, c1⟩ := drawAny_ok hl 900 (by omega) c0 (by omega) (K + 1) (by omega)
  have ed : spec_DrawToZig.f (K + 1) l = some b := by
    unfold spec_DrawToZig.f
    rw [e0, Option.bind_some]
    show (spec_l05DrawAny.f (K + 1) l 0 s0 900).bind _ = _
    rw [e1]
    rfl
  have z1 : impl_ZigZag.f (K + 1) = some zig := by unfold impl_ZigZag.f; rw [implzigZag_eq (K + 1) (by omega)]; rfl
  have z2 := specZigZag_eq (K + 1) (by omega)
  have t1 := specToZig_eq b (K + 1) (by omega)
  have t2 := implToZig_eq b (K + 1) (by omega)
  have hrl := toZigR_len b
  have q1 := sameInts_refl zig (by rw [zig_len]; omega) (K + 1) (by rw [zig_len]; omega)
  have q2 := sameInts_refl (toZigR b) (by omega) (K + 1) (by omega)
  rw [ed, Option.bind_some]
  simp only [Bool.false_eq_true, if_false]
  simp only [z1, t2, z2, q1, t1, q2, Option.bind_some, if_true]
  rw [laws_FnZig.j0, if_neg (by decide), if_pos (by omega)]
  obtain ⟨k, rfl⟩ : ∃ k, K = k + 200 := ⟨K - 200, by omega⟩
  have run : ∀ x5 : List Int, laws_FnZig.l0 (k + 200) b zig x5 (List.replicate 64 false) 0 = laws_FnZig.l0 (k + 72) b zig x5 (List.replicate 64 true) 64 := by
    intro x5; kernel_rfl
  rw [run]
  rw [show k + 72 = (k + 71) + 1 by omega, laws_FnZig.l0, if_neg (by omega), specBlockOk_eq b _ (by omega), Option.bind_some]
  by_cases h : okL (-32767) 32767 b = true
  · obtain ⟨h1, h2⟩ := okL_iff.1 h
    have u1 : toZigR b = toZigL b := if_pos h
    have u2 : okL (-32767) 32767 (toZigL b) = true := inR_map _ (fun i hi => inR_getD h2 _ (by have := zig_at i hi; omega))
    have u3 : okL (-32767) 32767 (frS b 64) = true := by rw [frS_map]; exact inR_map _ (fun i hi => inR_getD h2 _ (by have := unzig_at i hi; omega))
    have u4 : fromZigR (toZigL b) = b := by unfold fromZigR; rw [if_pos u2]; exact to_from b h1
    have u5 : fromZigR b = frS b 64 := if_pos h
    have u6 : toZigR (frS b 64) = b := by unfold toZigR; rw [if_pos u3]; exact from_to b h1
    have q3 := sameInts_refl b (by omega) (k + 71) (by omega)
    rw [if_pos h, u1, implFromZig_eq (toZigL b) _ (by omega), u4, Option.bind_some, q3, Option.bind_some, if_pos rfl, implFromZig_eq b _ (by omega), u5, Option.bind_some, implToZig_eq _ _ (by omega), u6, Option.bind_some, q3]
    rfl
  · rw [if_neg h]

end Go.Proofs.Ytbiamhmjcnmjgaa.Pure
