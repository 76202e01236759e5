/- At every slice of fields PackBits answers as the specification, for all inputs that the law's guard lets in. -/
import Derived.Test.YticlmpkbcmanfaaPFnExactPackBitsx5
import Derived.Test.YticlmpkbcmanfaaWSized
-- The printed row names this word without its seat: the same fact under that name.
namespace Go.Proofs.PrintWords
theorem sized_ints {H : Type} {enc : TypeId × Value → H} {P : Program} {W : World} {base : Nat} {spare : Nat → Bool} {held : Bool} {t e : TypeId} {k : IntKind} {a : Option Addr} {len cap : Nat} {d : DataW H} {ps : List MemPlace} {ts : List TypeId} {ds : List (DataW H)} {j : Nat} (hsz : (DataW.weightsEach P ts ds).all (· ≤ reachBytes) = true) (ht : ts[j]? = some t) (hd : ds[j]? = some d) (hu : P.underlying t = some (.slice e)) (he : P.underlying e = some (.int k)) (hc : P.cellsOf e = 1) {B : Nat} (hB : P.bytesOf e = B) (h : DataW.Trod enc P W base spare held t (.slice a len cap) d ps) : len * B ≤ 140737488351232 := Go.Proofs.YticlmpkbcmanfaaW.PrintWords.sized_ints hsz ht hd hu he hc hB h
end Go.Proofs.PrintWords
namespace Go.Proofs.Yticlmpkbcmanfaa.Pure
open Go.RowKit Go.Proofs.Yticlmpkbcmanfaa.PFnExactPackBits Go.Proofs.YticlmpkbcmanfaaW.PrintWords Go.Proofs.YticlmpkbcmanfaaW.PrintLast Go.Proofs.YticlmpkbcmanfaaW.PrintMore
set_option linter.unusedVariables false
set_option linter.unusedSimpArgs false
set_option maxRecDepth 4000

theorem w64 {x : Int} (h1 : -9223372036854775808 ≤ x) (h2 : x ≤ 9223372036854775807) : wrap64 x = x := by unfold wrap64; omega
theorem wsucc {i : Nat} (h : i ≤ 4611686018427387904) : wrap64 ((i : Int) + 1) = ((i + 1 : Nat) : Int) := by unfold wrap64; omega
theorem rd_nat (l : List Int) (i : Nat) (h : i < l.length) : rd l (i : Int) = l[i] := by simp [rd, List.getD_eq_getElem?_getD, h]
theorem drop_at {α : Type} (l : List α) (i : Nat) (h : i < l.length) : l.drop i = l[i] :: l.drop (i + 1) := List.drop_eq_getElem_cons h
theorem wf64 {x : Int} (h : (Lit.int .i64 x).wf = true) : -9223372036854775808 ≤ x ∧ x ≤ 9223372036854775807 := by
  simp [Lit.wf, IntKind.min, IntKind.max, IntKind.bits, IntKind.signed] at h; omega
theorem wfu8 {x : Int} (h : (Lit.int .u8 x).wf = true) : 0 ≤ x ∧ x ≤ 255 := by
  simp [Lit.wf, IntKind.min, IntKind.max, IntKind.bits, IntKind.signed] at h; omega

def inR (lo hi : Int) (l : List Int) : Bool := l.all fun x => decide (lo ≤ x ∧ x ≤ hi)
theorem inR_nil (lo hi : Int) : inR lo hi [] = true := rfl
theorem inR_cons (lo hi x : Int) (l : List Int) : inR lo hi (x :: l) = (decide (lo ≤ x ∧ x ≤ hi) && inR lo hi l) := rfl
theorem inR_at {lo hi : Int} {l : List Int} (h : inR lo hi l = true) (i : Nat) (hi' : i < l.length) : lo ≤ l[i] ∧ l[i] ≤ hi := by
  unfold inR at h; rw [List.all_eq_true] at h; simpa using h l[i] (List.getElem_mem hi')

theorem rd_getD (l : List Int) (i : Nat) : rd l (i : Int) = l.getD i 0 := by simp [rd]
theorem push_loop {α β : Type} (F : Nat → List α → Int → Option β) (g : Nat → α) (n : Nat) (res : β)
    (hstep : ∀ (k i : Nat) (a : List α), i < n → a.length = i → F (k + 1) a (i : Int) = F k (a ++ [g i]) ((i + 1 : Nat) : Int))
    (hend : ∀ k : Nat, F (k + 1) ((List.range n).map g) (n : Int) = some res) : ∀ k : Nat, n < k → F k [] 0 = some res := by
  have main : ∀ (d k i : Nat), i + d = n → d < k → F k ((List.range i).map g) (i : Int) = some res := by
    intro d
    induction d with
    | zero =>
      intro k i h1 hk
      obtain ⟨k, rfl⟩ : ∃ m, k = m + 1 := ⟨k - 1, by omega⟩
      obtain rfl : i = n := by omega
      exact hend k
    | succ d ih =>
      intro k i h1 hk
      obtain ⟨k, rfl⟩ : ∃ m, k = m + 1 := ⟨k - 1, by omega⟩
      rw [hstep k i _ (by omega) (by simp)]
      have e : (List.range (i + 1)).map g = (List.range i).map g ++ [g i] := by rw [List.range_succ, List.map_append]; rfl
      rw [← e]
      exact ih k (i + 1) (by omega) (by omega)
  intro k hk
  exact main n k 0 (by omega) hk
theorem state_loop {σ β : Type} (F : Nat → σ → Int → Option β) (s : Nat → σ) (n : Nat) (res : β)
    (hstep : ∀ (k i : Nat), i < n → F (k + 1) (s i) (i : Int) = F k (s (i + 1)) ((i + 1 : Nat) : Int))
    (hend : ∀ k : Nat, F (k + 1) (s n) (n : Int) = some res) : ∀ k : Nat, n < k → F k (s 0) 0 = some res := by
  have main : ∀ (d k i : Nat), i + d = n → d < k → F k (s i) (i : Int) = some res := by
    intro d
    induction d with
    | zero =>
      intro k i h1 hk
      obtain ⟨k, rfl⟩ : ∃ m, k = m + 1 := ⟨k - 1, by omega⟩
      obtain rfl : i = n := by omega
      exact hend k
    | succ d ih =>
      intro k i h1 hk
      obtain ⟨k, rfl⟩ : ∃ m, k = m + 1 := ⟨k - 1, by omega⟩
      rw [hstep k i (by omega)]
      exact ih k (i + 1) (by omega) (by omega)
  intro k hk
  exact main n k 0 (by omega) hk
theorem inR_getD {lo hi : Int} {l : List Int} (h : inR lo hi l = true) (i : Nat) (h' : i < l.length) : lo ≤ l.getD i 0 ∧ l.getD i 0 ≤ hi := by
  have := inR_at h i h'
  simpa [List.getD_eq_getElem?_getD, h'] using this

/-- The number whose bits, the highest first, are l. -/
def bv (l : List Bool) : Nat := match l with
  | [] => 0
  | b :: l => (if b then 2 ^ l.length else 0) + bv l
theorem bv_nil : bv [] = 0 := rfl
theorem bv_cons (b : Bool) (l : List Bool) : bv (b :: l) = (if b then 2 ^ l.length else 0) + bv l := rfl
theorem bv_lt (l : List Bool) : bv l < 2 ^ l.length := by
  induction l with
  | nil => decide
  | cons b l ih =>
    rw [bv_cons, List.length_cons, Nat.pow_succ]
    split <;> omega
theorem bv_app (x y : List Bool) : bv (x ++ y) = bv x * 2 ^ y.length + bv y := by
  induction x with
  | nil => rw [List.nil_append, bv_nil]; omega
  | cons b x ih =>
    rw [List.cons_append, bv_cons, bv_cons, ih, List.length_append, Nat.add_mul]
    split
    · rw [Nat.pow_add]; omega
    · omega
theorem bv_ones (n : Nat) : bv (List.replicate n true) = 2 ^ n - 1 := by
  induction n with
  | zero => rfl
  | succ n ih =>
    rw [List.replicate_succ, bv_cons, ih, if_pos rfl, List.length_replicate, Nat.pow_succ]
    have := Nat.two_pow_pos n
    omega
/-- The n bits of v, the highest first. -/
def bof (n v : Nat) : List Bool := match n with
  | 0 => []
  | n + 1 => (v / 2 ^ n % 2 == 1) :: bof n v
theorem bof_len (n v : Nat) : (bof n v).length = n := by
  induction n with
  | zero => rfl
  | succ n ih => rw [bof, List.length_cons, ih]
theorem bv_bof (n v : Nat) : bv (bof n v) = v % 2 ^ n := by
  induction n with
  | zero => rw [bof, bv_nil, Nat.pow_zero, Nat.mod_one]
  | succ n ih =>
    rw [bof, bv_cons, ih, bof_len, Nat.pow_succ, Nat.mod_mul]
    rcases Nat.mod_two_eq_zero_or_one (v / 2 ^ n) with h | h
    · rw [h]; simp
    · rw [h]; simp; omega
theorem i64_small (n : Int) (h0 : 0 ≤ n) (h1 : n < 2 ^ 62) : IntKind.i64.wrap n = n := by rw [i64_w, w64 (by omega) (by omega)]
theorem cast_pow (n : Nat) : ((2 ^ n : Nat) : Int) = (2 : Int) ^ n := by rw [Int.natCast_pow]; rfl
theorem shlN (a n : Nat) (hn : n ≤ 62) (h : a * 2 ^ n < 2 ^ 62) : shl .i64 (a : Int) (n : Int) = ((a * 2 ^ n : Nat) : Int) := by
  unfold shl
  rw [show IntKind.bits .i64 = 64 from rfl, Int.toNat_natCast, Nat.min_eq_left (by omega), ← cast_pow, ← Int.natCast_mul]
  exact i64_small _ (by omega) (by omega)
theorem shrN (a n : Nat) (hn : n ≤ 62) : shr .i64 (a : Int) (n : Int) = ((a / 2 ^ n : Nat) : Int) := by
  unfold shr
  rw [show IntKind.bits .i64 = 64 from rfl, Int.toNat_natCast, Nat.min_eq_left (by omega), ← cast_pow, ← Int.natCast_ediv]
theorem pow_le62 (n : Nat) (hn : n ≤ 61) : 2 ^ n < 2 ^ 62 := Nat.pow_lt_pow_right (by decide) (by omega)
theorem maskN (m : Nat) (hm : m ≤ 61) : wrap64 (shl .i64 1 (m : Int) - 1) = ((2 ^ m - 1 : Nat) : Int) := by
  have h := shlN 1 m (by omega) (by rw [Nat.one_mul]; exact pow_le62 m hm)
  have p := Nat.two_pow_pos m
  have q := pow_le62 m hm
  rw [Nat.one_mul] at h
  rw [show (1 : Int) = ((1 : Nat) : Int) from rfl, h, show ((2 ^ m : Nat) : Int) - ((1 : Nat) : Int) = ((2 ^ m - 1 : Nat) : Int) by omega, w64 (by omega) (by omega)]
theorem andN (a m : Nat) (ha : a < 2 ^ 62) (hm : m ≤ 61) : Go.bits .and .i64 (a : Int) (wrap64 (shl .i64 1 (m : Int) - 1)) = ((a % 2 ^ m : Nat) : Int) := by
  have p := Nat.two_pow_pos m
  rw [maskN m hm, show ((2 ^ m - 1 : Nat) : Int) = (2 : Int) ^ m - 1 by rw [Int.natCast_sub p, cast_pow]; rfl, bits_mask .i64 62 (by decide) i64_small m (by omega) _ (by omega) (by omega), ← cast_pow, ← Int.natCast_emod]
theorem and1N (a : Nat) (ha : a < 2 ^ 62) : Go.bits .and .i64 (a : Int) 1 = ((a % 2 : Nat) : Int) := by
  have h := bits_mask .i64 62 (by decide) i64_small 1 (by omega) (a : Int) (by omega) (by omega)
  rw [show (2 : Int) ^ 1 - 1 = 1 by decide, show (2 : Int) ^ 1 = 2 by decide] at h
  rw [h]; omega
theorem orN (a b i : Nat) (ha : a * 2 ^ i < 2 ^ 62) (hb : b < 2 ^ i) (hi : i ≤ 61) : Go.bits .or .i64 ((a * 2 ^ i : Nat) : Int) (b : Int) = ((a * 2 ^ i + b : Nat) : Int) := by
  have q := pow_le62 i hi
  rw [bits_join .i64 62 (by decide) i64_small i _ _ (by omega) (by rw [← cast_pow, ← Int.natCast_emod, Nat.mul_mod_left]; rfl) (by omega) (by omega) (by rw [← cast_pow]; omega) (by omega)]
  omega
/-- The first q bytes of bits. -/
def pk (q : Nat) (B : List Bool) : List Int := (List.range q).map fun i => ((bv ((B.drop (8 * i)).take 8) : Nat) : Int)
theorem pk_len (q : Nat) (B : List Bool) : (pk q B).length = q := by simp [pk]
theorem pk_succ (q : Nat) (B : List Bool) : pk (q + 1) B = pk q B ++ [((bv ((B.drop (8 * q)).take 8) : Nat) : Int)] := by
  unfold pk; rw [List.range_succ, List.map_append]; rfl
theorem pk_app (q : Nat) (B C : List Bool) (h : 8 * q ≤ B.length) : pk q (B ++ C) = pk q B := by
  unfold pk
  refine List.map_congr_left fun i hi => ?_
  have := List.mem_range.1 hi
  rw [List.drop_append_of_le_length (by omega), List.take_append_of_le_length (by rw [List.length_drop]; omega)]
theorem bv_snoc (l : List Bool) (b : Bool) : bv (l ++ [b]) = 2 * bv l + (if b then 1 else 0) := by
  rw [bv_app, bv_cons, bv_nil]
  simp; omega

theorem between_eq (a lo hi : Int) : spec_l01Between.f a lo hi = some (decide (lo ≤ a ∧ a ≤ hi)) := by
  unfold spec_l01Between.f
  by_cases h : a ≥ lo
  · rw [if_pos h]; congr 1; simp; omega
  · rw [if_neg h]; congr 1; simp; omega

theorem within_eq (a lo hi : Int) : impl_within.f a lo hi = some (decide (lo ≤ a ∧ a ≤ hi)) := by
  unfold impl_within.f
  by_cases h : a ≥ lo
  · rw [if_pos h]; congr 1; simp; omega
  · rw [if_neg h]; congr 1; simp; omega

def powM (n : Int) : Int := wrap64 (shl .i64 1 n - 1)
def okF (x : S69) : Bool := decide (0 ≤ x.f0 ∧ x.f0 ≤ 16) && decide (0 ≤ x.f1 ∧ x.f1 ≤ powM x.f0)
def sumF : List S69 → Int
  | [] => 0
  | x :: xs => x.f0 + sumF xs
def fieldsB (l : List S69) : Bool := l.all okF && decide (sumF l ≤ 480000)
theorem sumF_nn : ∀ l : List S69, l.all okF = true → 0 ≤ sumF l ∧ sumF l ≤ 16 * (l.length : Int)
  | [], _ => by simp [sumF]
  | x :: xs, h => by
    rw [List.all_cons, Bool.and_eq_true] at h
    have := sumF_nn xs h.2
    have h1 := h.1
    simp [okF] at h1
    simp only [sumF, List.length_cons]
    omega
theorem rdF_nat (l : List S69) (i : Nat) (h : i < l.length) : rd_T69 l (i : Int) = l[i] := by simp [rd_T69, List.getD_eq_getElem?_getD, h]
theorem specFields_loop (l : List S69) (hl : l.length ≤ 1048576) : ∀ (d k i : Nat) (s : Int), i + d = l.length → 2 * d < k → 0 ≤ s → s ≤ 480000 → spec_FieldsOk.l0 k l s (i : Int) = some ((l.drop i).all okF && decide (s + sumF (l.drop i) ≤ 480000)) := by
  intro d
  induction d with
  | zero =>
    intro k i s h1 hk h0 hs
    obtain ⟨k, rfl⟩ : ∃ m, k = m + 1 := ⟨k - 1, by omega⟩
    rw [spec_FieldsOk.l0, if_neg (by omega), List.drop_eq_nil_of_le (by omega)]
    simp [sumF, hs]
  | succ d ih =>
    intro k i s h1 hk h0 hs
    obtain ⟨k, rfl⟩ : ∃ m, k = m + 2 := ⟨k - 2, by omega⟩
    rw [spec_FieldsOk.l0, if_pos (by omega), if_pos (by omega), rdF_nat l i (by omega), between_eq, Option.bind_some, drop_at l i (by omega), List.all_cons, okF, sumF]
    by_cases h : 0 ≤ l[i].f0 ∧ l[i].f0 ≤ 16
    · rw [decide_eq_true h, if_pos rfl, if_pos h.1, between_eq, Option.bind_some, Bool.true_and]
      by_cases h2 : 0 ≤ l[i].f1 ∧ l[i].f1 ≤ powM l[i].f0
      · have h2' : 0 ≤ l[i].f1 ∧ l[i].f1 ≤ wrap64 (shl .i64 1 l[i].f0 - 1) := h2
        rw [decide_eq_true h2', decide_eq_true h2, Bool.true_and, spec_FieldsOk.j1, if_neg (by decide), w64 (by omega) (by omega)]
        by_cases h3 : s + l[i].f0 > 480000
        · rw [if_pos h3]
          by_cases ha : (l.drop (i + 1)).all okF = true
          · have := sumF_nn _ ha
            rw [ha, decide_eq_false (by omega)]; rfl
          · have ha : (l.drop (i + 1)).all okF = false := by simpa using ha
            rw [ha, Bool.false_and]
        · rw [if_neg h3, wsucc (by omega), ih k (i + 1) _ (by omega) (by omega) (by omega) (by omega), Int.add_assoc]
      · have h2' : ¬ (0 ≤ l[i].f1 ∧ l[i].f1 ≤ wrap64 (shl .i64 1 l[i].f0 - 1)) := h2
        rw [decide_eq_false h2', decide_eq_false h2, spec_FieldsOk.j1, if_pos (by rfl), Bool.false_and, Bool.false_and]
    · rw [decide_eq_false h, if_neg (by decide), spec_FieldsOk.j1, if_pos rfl, Bool.false_and, Bool.false_and, Bool.false_and]
theorem specFields_eq (l : List S69) (hl : l.length ≤ 1048576) (k : Nat) (hk : 2 * l.length < k) : spec_FieldsOk.f k l = some (fieldsB l) := by
  unfold spec_FieldsOk.f fieldsB
  have := specFields_loop l hl l.length k 0 0 (by omega) hk (by omega) (by omega)
  simpa using this
theorem implFields_loop (l : List S69) (hl : l.length ≤ 1048576) : ∀ (d k i : Nat) (s : Int), i + d = l.length → d < k → 0 ≤ s → s ≤ 16 * (i : Int) → impl_FieldsOk.l0 k s l (l.length : Int) (i : Int) = some ((l.drop i).all okF && decide (s + sumF (l.drop i) ≤ 480000)) := by
  intro d
  induction d with
  | zero =>
    intro k i s h1 hk h0 hs
    obtain ⟨k, rfl⟩ : ∃ m, k = m + 1 := ⟨k - 1, by omega⟩
    rw [impl_FieldsOk.l0, if_neg (by omega), List.drop_eq_nil_of_le (by omega)]
    simp [sumF]
  | succ d ih =>
    intro k i s h1 hk h0 hs
    obtain ⟨k, rfl⟩ : ∃ m, k = m + 1 := ⟨k - 1, by omega⟩
    rw [impl_FieldsOk.l0, if_pos (by omega), if_pos (by omega), if_pos (by omega), rdF_nat l i (by omega), within_eq, Option.bind_some, drop_at l i (by omega), List.all_cons, okF, sumF]
    by_cases h : 0 ≤ l[i].f0 ∧ l[i].f0 ≤ 16
    · rw [decide_eq_true h, if_pos rfl, if_pos h.1, within_eq, Option.bind_some, Bool.true_and]
      by_cases h2 : 0 ≤ l[i].f1 ∧ l[i].f1 ≤ powM l[i].f0
      · have h2' : 0 ≤ l[i].f1 ∧ l[i].f1 ≤ wrap64 (shl .i64 1 l[i].f0 - 1) := h2
        rw [decide_eq_true h2', decide_eq_true h2, Bool.true_and, if_pos rfl, w64 (by omega) (by omega), wsucc (by omega), ih k (i + 1) _ (by omega) (by omega) (by omega) (by omega), Int.add_assoc]
      · have h2' : ¬ (0 ≤ l[i].f1 ∧ l[i].f1 ≤ wrap64 (shl .i64 1 l[i].f0 - 1)) := h2
        rw [decide_eq_false h2', decide_eq_false h2, if_neg (by decide), Bool.false_and, Bool.false_and]
    · rw [decide_eq_false h, if_neg (by decide), Bool.false_and, Bool.false_and, Bool.false_and]
theorem implFields_eq (l : List S69) (hl : l.length ≤ 1048576) (k : Nat) (hk : l.length < k) : impl_FieldsOk.f k l = some (fieldsB l) := by
  unfold impl_FieldsOk.f fieldsB
  have := implFields_loop l hl l.length k 0 0 (by omega) hk (by omega) (by omega)
  simpa using this

theorem split_byte (D : List Bool) (h : 8 ≤ D.length) : bv D / 2 ^ (D.length - 8) = bv (D.take 8) ∧ bv D % 2 ^ (D.length - 8) = bv (D.drop 8) ∧ bv (D.take 8) < 256 := by
  have e : bv D = bv (D.take 8) * 2 ^ (D.length - 8) + bv (D.drop 8) := by
    have h1 := bv_app (D.take 8) (D.drop 8)
    rw [List.take_append_drop, List.length_drop] at h1
    exact h1
  have l1 := bv_lt (D.drop 8)
  rw [List.length_drop] at l1
  have l2 := bv_lt (D.take 8)
  rw [List.length_take, Nat.min_eq_left h] at l2
  have p := Nat.two_pow_pos (D.length - 8)
  refine ⟨?_, ?_, l2⟩
  · rw [e, Nat.mul_comm, Nat.mul_add_div p, Nat.div_eq_of_lt l1, Nat.add_zero]
  · rw [e, Nat.mul_comm, Nat.mul_add_mod, Nat.mod_eq_of_lt l1]
/-- The loop that puts out whole bytes. -/
theorem put_loop (B : List Bool) (hB : B.length ≤ 1000000) : ∀ (d k q : Nat), q + d = B.length / 8 → d < k → B.length - 8 * q ≤ 60 → impl_PackBits_c1.l0 k ((bv (B.drop (8 * q)) : Nat) : Int) ((B.length - 8 * q : Nat) : Int) (pk q B) = some (((bv (B.drop (8 * (B.length / 8))) : Nat) : Int), ((B.length % 8 : Nat) : Int), pk (B.length / 8) B) := by
  intro d
  induction d with
  | zero =>
    intro k q hq hk hm
    obtain ⟨k, rfl⟩ : ∃ m, k = m + 1 := ⟨k - 1, by omega⟩
    obtain rfl : q = B.length / 8 := by omega
    rw [impl_PackBits_c1.l0, if_neg (by omega), show B.length - 8 * (B.length / 8) = B.length % 8 by omega]
  | succ d ih =>
    intro k q hq hk hm
    obtain ⟨k, rfl⟩ : ∃ m, k = m + 1 := ⟨k - 1, by omega⟩
    have hl : (B.drop (8 * q)).length = B.length - 8 * q := List.length_drop
    obtain ⟨s1, s2, s3⟩ := split_byte (B.drop (8 * q)) (by omega)
    have b1 := bv_lt (B.drop (8 * q))
    have b2 := pow_le62 (B.length - 8 * q) (by omega)
    have pl := pk_len q B
    rw [hl] at s1 s2 b1
    rw [impl_PackBits_c1.l0, if_pos (by omega), show wrap64 (((B.length - 8 * q : Nat) : Int) - 8) = ((B.length - 8 * q - 8 : Nat) : Int) by rw [w64 (by omega) (by omega)]; omega, if_pos (by omega), if_pos (by omega), shrN _ _ (by omega), s1, andN _ _ (by omega) (by omega), s2, List.drop_drop, show 8 * q + 8 = 8 * (q + 1) by omega, show B.length - 8 * q - 8 = B.length - 8 * (q + 1) by omega, show ((bv (List.take 8 (B.drop (8 * q))) : Nat) : Int) % 256 = ((bv (List.take 8 (B.drop (8 * q))) : Nat) : Int) by omega, ← pk_succ]
    exact ih k (q + 1) (by omega) (by omega) (by omega)
/-- One call of put: the bits C come behind B. -/
theorem put_eq (B C : List Bool) (n : Nat) (hC : C.length = n) (hn : n ≤ 16) (hB : B.length + n ≤ 1000000) (k : Nat) (hk : 10 < k) : impl_PackBits_c1.f k (n : Int) ((bv C : Nat) : Int) ((bv (B.drop (8 * (B.length / 8))) : Nat) : Int) ((B.length % 8 : Nat) : Int) (pk (B.length / 8) B) = some (((bv ((B ++ C).drop (8 * ((B ++ C).length / 8))) : Nat) : Int), (((B ++ C).length % 8 : Nat) : Int), pk ((B ++ C).length / 8) (B ++ C)) := by
  have hl : (B ++ C).length = B.length + n := by rw [List.length_append, hC]
  have hd : (B.drop (8 * (B.length / 8))).length = B.length % 8 := by rw [List.length_drop]; omega
  have b1 := bv_lt (B.drop (8 * (B.length / 8)))
  have b3 := bv_lt C
  rw [hC] at b3
  rw [hd] at b1
  have b2 : bv (B.drop (8 * (B.length / 8))) * 2 ^ n < 2 ^ 62 := by
    have e1 : bv (B.drop (8 * (B.length / 8))) < 2 ^ 8 := Nat.lt_trans b1 (Nat.pow_lt_pow_right (by decide) (by omega))
    have e2 : 2 ^ n ≤ 2 ^ 16 := Nat.pow_le_pow_right (by decide) hn
    have e3 : bv (B.drop (8 * (B.length / 8))) * 2 ^ n ≤ 256 * 2 ^ 16 := Nat.mul_le_mul (by omega) e2
    omega
  have hv : bv ((B ++ C).drop (8 * (B.length / 8))) = bv (B.drop (8 * (B.length / 8))) * 2 ^ n + bv C := by
    rw [List.drop_append_of_le_length (by omega), bv_app, hC]
  unfold impl_PackBits_c1.f
  rw [if_pos (by omega), shlN _ _ (by omega) b2, orN _ _ _ b2 b3 (by omega), ← hv, w64 (by omega) (by omega), show ((B.length % 8 : Nat) : Int) + (n : Int) = (((B ++ C).length - 8 * (B.length / 8) : Nat) : Int) by omega, ← pk_app _ B C (by omega)]
  exact put_loop (B ++ C) (by omega) ((B ++ C).length / 8 - B.length / 8) k (B.length / 8) (by omega) (by omega) (by omega)
def bitsF (l : List S69) : List Bool := l.flatMap fun x => bof x.f0.toNat x.f1.toNat
theorem bitsF_cons (x : S69) (l : List S69) : bitsF (x :: l) = bof x.f0.toNat x.f1.toNat ++ bitsF l := rfl
theorem okF_iff (x : S69) (h : okF x = true) : 0 ≤ x.f0 ∧ x.f0 ≤ 16 ∧ 0 ≤ x.f1 ∧ x.f1.toNat < 2 ^ x.f0.toNat := by
  simp [okF] at h
  obtain ⟨⟨h1, h2⟩, h3, h4⟩ := h
  obtain ⟨n, hn⟩ := Int.eq_ofNat_of_zero_le h1
  unfold powM at h4
  rw [hn, maskN n (by omega)] at h4
  have p := Nat.two_pow_pos n
  refine ⟨h1, h2, h3, ?_⟩
  rw [hn, Int.toNat_natCast]; omega
theorem bitsF_len : ∀ l : List S69, l.all okF = true → ((bitsF l).length : Int) = sumF l
  | [], _ => rfl
  | x :: xs, h => by
    rw [List.all_cons, Bool.and_eq_true] at h
    have := bitsF_len xs h.2
    have h1 := okF_iff x h.1
    rw [bitsF_cons, List.length_append, bof_len, sumF]; omega
/-- The bytes of bits, filled up with ones. -/
def packL (B : List Bool) : List Int := pk ((B.length + 7) / 8) (B ++ List.replicate (8 * ((B.length + 7) / 8) - B.length) true)
theorem packL_len (B : List Bool) : (packL B).length = (B.length + 7) / 8 := pk_len _ _
theorem implPack_loop (l : List S69) (hl : l.length ≤ 1048576) (hok : l.all okF = true) : ∀ (d k i : Nat) (B : List Bool), i + d = l.length → d + 20 < k → ((B.length : Int) + ((bitsF (l.drop i)).length : Int) ≤ 480000) →
    impl_PackBits.l0 k (pk (B.length / 8) B) ((bv (B.drop (8 * (B.length / 8))) : Nat) : Int) ((B.length % 8 : Nat) : Int) l (l.length : Int) (i : Int) = some (packL (B ++ bitsF (l.drop i))) := by
  intro d
  induction d with
  | zero =>
    intro k i B hi hk hb
    obtain ⟨k, rfl⟩ : ∃ m, k = m + 1 := ⟨k - 1, by omega⟩
    rw [impl_PackBits.l0, if_neg (by omega), (List.drop_eq_nil_of_le (by omega) : l.drop i = [])]
    rw [(List.drop_eq_nil_of_le (by omega) : l.drop i = [])] at hb
    rw [show bitsF [] = [] from rfl, List.append_nil]
    by_cases h : 0 < B.length % 8
    · rw [if_pos (by omega), show wrap64 (8 - ((B.length % 8 : Nat) : Int)) = ((8 - B.length % 8 : Nat) : Int) by rw [w64 (by omega) (by omega)]; omega, if_pos (by omega), maskN _ (by omega), ← bv_ones, put_eq B (List.replicate (8 - B.length % 8) true) (8 - B.length % 8) (by simp) (by omega) (by omega) k (by omega), Option.bind_some]
      unfold packL
      rw [List.length_append, List.length_replicate, show (B.length + (8 - B.length % 8)) / 8 = (B.length + 7) / 8 by omega, show 8 * ((B.length + 7) / 8) - B.length = 8 - B.length % 8 by omega]
    · rw [if_neg (by omega)]
      unfold packL
      rw [show (B.length + 7) / 8 = B.length / 8 by omega, show 8 * (B.length / 8) - B.length = 0 by omega, List.replicate_zero, List.append_nil]
  | succ d ih =>
    intro k i B hi hk hb
    obtain ⟨k, rfl⟩ : ∃ m, k = m + 1 := ⟨k - 1, by omega⟩
    have ho := okF_iff l[i] (List.all_eq_true.1 hok _ (List.getElem_mem (by omega)))
    rw [drop_at l i (by omega), bitsF_cons] at hb ⊢
    rw [List.length_append, bof_len] at hb
    have e := put_eq B (bof l[i].f0.toNat l[i].f1.toNat) l[i].f0.toNat (bof_len _ _) (by omega) (by omega) k (by omega)
    rw [bv_bof, Nat.mod_eq_of_lt ho.2.2.2, Int.toNat_of_nonneg ho.1, Int.toNat_of_nonneg ho.2.2.1] at e
    rw [impl_PackBits.l0, if_pos (by omega), if_pos (by omega), if_pos (by omega), rdF_nat l i (by omega), e, Option.bind_some, wsucc (by omega)]
    rw [ih k (i + 1) (B ++ bof l[i].f0.toNat l[i].f1.toNat) (by omega) (by omega) (by rw [List.length_append, bof_len]; omega), List.append_assoc]
def packR (l : List S69) : List Int := if fieldsB l then packL (bitsF l) else []
theorem packR_len (l : List S69) : (packR l).length ≤ 60001 := by
  unfold packR
  split
  · rename_i h
    unfold fieldsB at h
    rw [Bool.and_eq_true] at h
    have := bitsF_len l h.1
    have := of_decide_eq_true h.2
    rw [packL_len]; omega
  · simp
theorem implPack_eq (l : List S69) (hl : l.length ≤ 1048576) (k : Nat) (hk : l.length + 30 < k) : impl_PackBits.f k l = some (packR l) := by
  unfold impl_PackBits.f packR
  rw [implFields_eq l hl k (by omega), Option.bind_some]
  by_cases h : fieldsB l = true
  · rw [if_pos h, if_pos h]
    unfold fieldsB at h
    rw [Bool.and_eq_true] at h
    have h1 := bitsF_len l h.1
    have h2 := of_decide_eq_true h.2
    have := implPack_loop l hl h.1 l.length k 0 [] (by omega) (by omega) (by rw [List.drop_zero, List.length_nil]; omega)
    rw [List.nil_append, List.drop_zero] at this
    exact this
  · rw [if_neg h, if_neg h]
theorem specBits_loop (v : Nat) (hv : v < 2 ^ 62) : ∀ (n k : Nat) (a : List Bool), n < k → n ≤ 16 → a.length + n ≤ 1000000 → spec_l01Bits.l0 k a (v : Int) ((n : Int) - 1) = some (a ++ bof n v) := by
  intro n
  induction n with
  | zero =>
    intro k a hk hn ha
    obtain ⟨k, rfl⟩ : ∃ m, k = m + 1 := ⟨k - 1, by omega⟩
    rw [spec_l01Bits.l0, if_neg (by omega), bof, List.append_nil]
  | succ n ih =>
    intro k a hk hn ha
    obtain ⟨k, rfl⟩ : ∃ m, k = m + 1 := ⟨k - 1, by omega⟩
    have hd : v / 2 ^ n < 2 ^ 62 := Nat.lt_of_le_of_lt (Nat.div_le_self _ _) hv
    have e : ((((v / 2 ^ n % 2 : Nat) : Int)) == 1) = (v / 2 ^ n % 2 == 1) := by
      rcases Nat.mod_two_eq_zero_or_one (v / 2 ^ n) with h | h <;> rw [h] <;> rfl
    rw [show ((n + 1 : Nat) : Int) - 1 = (n : Int) by omega, spec_l01Bits.l0, if_pos (by omega), if_pos (by omega), if_pos (by omega), shrN _ _ (by omega), and1N _ hd, e, w64 (x := (n : Int) - 1) (by omega) (by omega), ih k _ (by omega) (by omega) (by simp; omega), bof, List.append_assoc]; rfl
theorem specPack_l1 (B C : List Bool) (a : List Int) (i : Nat) (hB : B.length ≤ 1000000) (hC : C = List.replicate C.length true) (hi : 8 * i + 8 ≤ (B ++ C).length) (ha : a.length ≤ 1000000) (hm : C.length < 8) : ∀ (d k j : Nat), j + d = 8 → d < k →
    spec_l01Pack.l1 k B a ((8 * i : Nat) : Int) ((bv (((B ++ C).drop (8 * i)).take j) : Nat) : Int) (j : Int) = spec_l01Pack.l0 (k - d - 1) B (a ++ [((bv (((B ++ C).drop (8 * i)).take 8) : Nat) : Int)]) ((8 * (i + 1) : Nat) : Int) := by
  have hlen : (B ++ C).length = B.length + C.length := List.length_append
  intro d
  induction d with
  | zero =>
    intro k j hj hk
    obtain ⟨k, rfl⟩ : ∃ m, k = m + 1 := ⟨k - 1, by omega⟩
    obtain rfl : j = 8 := by omega
    have b := bv_lt (((B ++ C).drop (8 * i)).take 8)
    rw [List.length_take, List.length_drop, Nat.min_eq_left (by omega)] at b
    rw [spec_l01Pack.l1, if_neg (by omega), if_pos (by omega), show ((bv (List.take 8 (List.drop (8 * i) (B ++ C))) : Nat) : Int) % 256 = ((bv (List.take 8 (List.drop (8 * i) (B ++ C))) : Nat) : Int) by omega, w64 (by omega) (by omega), show ((8 * i : Nat) : Int) + 8 = ((8 * (i + 1) : Nat) : Int) by omega]; rfl
  | succ d ih =>
    intro k j hj hk
    obtain ⟨k, rfl⟩ : ∃ m, k = m + 1 := ⟨k - 1, by omega⟩
    have b := bv_lt (((B ++ C).drop (8 * i)).take j)
    have hl : (((B ++ C).drop (8 * i)).take j).length = j := by rw [List.length_take, List.length_drop]; omega
    rw [hl] at b
    have b2 : 2 ^ j ≤ 2 ^ 8 := Nat.pow_le_pow_right (by decide) (by omega)
    have hlt : 8 * i + j < (B ++ C).length := by omega
    have hs : ((B ++ C).drop (8 * i)).take (j + 1) = ((B ++ C).drop (8 * i)).take j ++ [(B ++ C)[8 * i + j]] := by
      rw [List.take_succ_eq_append_getElem (by rw [List.length_drop]; omega), List.getElem_drop]
    have hv : bv (((B ++ C).drop (8 * i)).take (j + 1)) = 2 * bv (((B ++ C).drop (8 * i)).take j) + (if (B ++ C)[8 * i + j] then 1 else 0) := by rw [hs, bv_snoc]
    have hk2 : k + 1 - (d + 1) - 1 = k - d - 1 := by omega
    rw [hk2, ← ih k (j + 1) (by omega) (by omega), hv, spec_l01Pack.l1, if_pos (by omega), w64 (x := ((8 * i : Nat) : Int) + (j : Int)) (by omega) (by omega), show ((8 * i : Nat) : Int) + (j : Int) = ((8 * i + j : Nat) : Int) by omega, wsucc (by omega), w64 (x := 2 * ((bv (List.take j (List.drop (8 * i) (B ++ C))) : Nat) : Int)) (by omega) (by omega), w64 (x := 2 * ((bv (List.take j (List.drop (8 * i) (B ++ C))) : Nat) : Int) + 1) (by omega) (by omega)]
    by_cases c : 8 * i + j < B.length
    · have hg : (B ++ C)[8 * i + j] = B[8 * i + j] := List.getElem_append_left c
      have hr : rdOf false B ((8 * i + j : Nat) : Int) = B[8 * i + j] := by
        unfold rdOf; rw [Int.toNat_natCast, List.getD_eq_getElem?_getD, List.getElem?_eq_getElem c]; rfl
      rw [if_neg (by omega), if_pos (by omega), if_pos (by omega), hr, hg]
      by_cases t : B[8 * i + j] = true
      · rw [t]; simp
      · rw [Bool.eq_false_iff.2 t]; simp
    · have hg : (B ++ C)[8 * i + j] = true := by
        rw [List.getElem_append_right (by omega)]
        have : ∀ x ∈ C, x = true := by rw [hC]; exact fun x hx => (List.mem_replicate.1 hx).2
        exact this _ (List.getElem_mem _)
      rw [if_pos (by omega), hg]
      congr 1
theorem specPack_l0 (B C : List Bool) (Q : Nat) (hB : B.length ≤ 1000000) (hC : C = List.replicate C.length true) (hQ : 8 * Q = (B ++ C).length) (hm : C.length < 8) : ∀ (d k i : Nat), i + d = Q → 10 * d < k →
    spec_l01Pack.l0 k B (pk i (B ++ C)) ((8 * i : Nat) : Int) = some (pk Q (B ++ C)) := by
  have hlen : (B ++ C).length = B.length + C.length := List.length_append
  intro d
  induction d with
  | zero =>
    intro k i hi hk
    obtain ⟨k, rfl⟩ : ∃ m, k = m + 1 := ⟨k - 1, by omega⟩
    obtain rfl : i = Q := by omega
    rw [spec_l01Pack.l0, if_neg (by omega)]
  | succ d ih =>
    intro k i hi hk
    obtain ⟨k, rfl⟩ : ∃ m, k = m + 1 := ⟨k - 1, by omega⟩
    have h := specPack_l1 B C (pk i (B ++ C)) i hB hC (by omega) (by rw [pk_len]; omega) hm 8 k 0 (by omega) (by omega)
    rw [List.take_zero, bv_nil] at h
    rw [spec_l01Pack.l0, if_pos (by omega)]
    refine Eq.trans h ?_
    rw [← pk_succ]
    exact ih _ (i + 1) (by omega) (by omega)
theorem specPackL (B : List Bool) (hB : B.length ≤ 480000) (k : Nat) (hk : 10 * ((B.length + 7) / 8) < k) : spec_l01Pack.f k B = some (packL B) := by
  unfold spec_l01Pack.f packL
  exact specPack_l0 B _ _ (by omega) (by rw [List.length_replicate]) (by rw [List.length_append, List.length_replicate]; omega) (by rw [List.length_replicate]; omega) ((B.length + 7) / 8) k 0 (by omega) hk
theorem specPack_loop (l : List S69) (hl : l.length ≤ 1048576) (hok : l.all okF = true) : ∀ (d k i : Nat) (B : List Bool), i + d = l.length → d + 700000 < k → ((B.length : Int) + ((bitsF (l.drop i)).length : Int) ≤ 480000) →
    spec_PackBits.l0 k l B (i : Int) = some (packL (B ++ bitsF (l.drop i))) := by
  intro d
  induction d with
  | zero =>
    intro k i B hi hk hb
    obtain ⟨k, rfl⟩ : ∃ m, k = m + 1 := ⟨k - 1, by omega⟩
    rw [spec_PackBits.l0, if_neg (by omega), List.drop_eq_nil_of_le (by omega), show bitsF [] = [] from rfl, List.append_nil, specPackL B (by omega) k (by omega)]; rfl
  | succ d ih =>
    intro k i B hi hk hb
    obtain ⟨k, rfl⟩ : ∃ m, k = m + 1 := ⟨k - 1, by omega⟩
    have ho := okF_iff l[i] (List.all_eq_true.1 hok _ (List.getElem_mem (by omega)))
    rw [drop_at l i (by omega), bitsF_cons] at hb ⊢
    rw [List.length_append, bof_len] at hb
    have hp := Nat.lt_trans ho.2.2.2 (pow_le62 l[i].f0.toNat (by omega))
    have e := specBits_loop l[i].f1.toNat hp l[i].f0.toNat k B (by omega) (by omega) (by omega)
    rw [Int.toNat_of_nonneg ho.1, Int.toNat_of_nonneg ho.2.2.1] at e
    rw [spec_PackBits.l0, if_pos (by omega), if_pos (by omega), rdF_nat l i (by omega)]
    unfold spec_l01Bits.f
    rw [w64 (by omega) (by omega), e, Option.bind_some, wsucc (by omega)]
    rw [ih k (i + 1) (B ++ bof l[i].f0.toNat l[i].f1.toNat) (by omega) (by omega) (by rw [List.length_append, bof_len]; omega), List.append_assoc]
theorem specPack_eq (l : List S69) (hl : l.length ≤ 1048576) (k : Nat) (hk : 2 * l.length + 700000 < k) : spec_PackBits.f k l = some (packR l) := by
  unfold spec_PackBits.f packR
  rw [specFields_eq l hl k (by omega), Option.bind_some]
  by_cases h : fieldsB l = true
  · rw [if_pos h, if_pos h]
    unfold fieldsB at h
    rw [Bool.and_eq_true] at h
    have h1 := bitsF_len l h.1
    have h2 := of_decide_eq_true h.2
    have := specPack_loop l hl h.1 l.length k 0 [] (by omega) (by omega) (by rw [List.drop_zero, List.length_nil]; omega)
    rw [List.nil_append, List.drop_zero] at this
    exact this
  · rw [if_neg h, if_neg h]

def toF (x : S72) : S69 := ⟨x.f0, x.f1⟩
theorem toFieldS_loop (l : List S72) (hl : l.length ≤ 1048576) : ∀ (d k i : Nat) (x : List S69), i + d = l.length → d < k → x.length = l.length → (∀ j, j < i → x[j]? = (l[j]?).map toF) → laws_toFieldS.l0 k l x (i : Int) = some (l.map toF) := by
  intro d
  induction d with
  | zero =>
    intro k i x hi hk hx he
    obtain ⟨k, rfl⟩ : ∃ m, k = m + 1 := ⟨k - 1, by omega⟩
    rw [laws_toFieldS.l0, if_neg (by omega)]
    congr 1
    apply List.ext_getElem?
    intro j
    by_cases hj : j < i
    · rw [he j hj, List.getElem?_map]
    · rw [List.getElem?_eq_none (by omega), List.getElem?_eq_none (by simp; omega)]
  | succ d ih =>
    intro k i x hi hk hx he
    obtain ⟨k, rfl⟩ : ∃ m, k = m + 1 := ⟨k - 1, by omega⟩
    have hrd : rd_T72 l (i : Int) = l[i] := by simp [rd_T72, List.getD_eq_getElem?_getD, show i < l.length by omega]
    rw [laws_toFieldS.l0, if_pos (by omega), if_pos (by omega), hrd, laws_toField.f, Option.bind_some, if_pos (by omega), wsucc (by omega)]
    refine ih k (i + 1) _ (by omega) (by omega) (by simpa using hx) ?_
    intro j hj
    rw [Int.toNat_natCast, List.getElem?_set]
    by_cases e : i = j
    · subst e; simp [show i < x.length by omega, List.getElem?_eq_getElem (show i < l.length by omega), toF]
    · rw [if_neg e]; exact he j (by omega)
theorem toFieldS_eq (l : List S72) (hl : l.length ≤ 1048576) (k : Nat) (hk : l.length < k) : laws_toFieldS.f k l = some (l.map toF) := by
  unfold laws_toFieldS.f
  rw [if_pos (by omega), if_pos (by omega)]
  exact toFieldS_loop l hl l.length k 0 _ (by omega) hk (by simp) (by intro j hj; omega)

theorem eqField_refl (a0 a1 : Int) : laws_eqField.f a0 a1 a0 a1 = some true := by simp [laws_eqField.f]
theorem eqFieldS_loop (l : List S69) (hl : l.length ≤ 4611686018427387904) : ∀ (d k i : Nat), i + d = l.length → d < k → laws_eqFieldS.l0 k l l (i : Int) = some true := by
  intro d
  induction d with
  | zero =>
    intro k i hi hk
    obtain ⟨k, rfl⟩ : ∃ m, k = m + 1 := ⟨k - 1, by omega⟩
    rw [laws_eqFieldS.l0, if_neg (by omega)]
  | succ d ih =>
    intro k i hi hk
    obtain ⟨k, rfl⟩ : ∃ m, k = m + 1 := ⟨k - 1, by omega⟩
    rw [laws_eqFieldS.l0, if_pos (by omega), if_pos (by omega), if_pos (by omega), eqField_refl, Option.bind_some, if_pos rfl, wsucc (by omega)]
    exact ih k (i + 1) (by omega) (by omega)
theorem eqFieldS_refl (l : List S69) (hl : l.length ≤ 4611686018427387904) (k : Nat) (hk : l.length < k) : laws_eqFieldS.f k l l = some true := by
  unfold laws_eqFieldS.f
  rw [if_pos rfl]
  exact eqFieldS_loop l hl l.length k 0 (by omega) hk
def marksField (m : Int) (n : Nat) : List S69 := (List.range n).map fun j : Nat => ⟨(m + 2 * (j : Int)), (m + 2 * (j : Int)) + 1⟩
theorem marksField_len (m : Int) (n : Nat) : (marksField m n).length = n := by simp [marksField]
theorem rdField_set (x : List S69) (i : Nat) (v : S69) (h : i < x.length) : rd_T69 (x.set (i : Int).toNat v) (i : Int) = v := by
  simp [rd_T69, h]
theorem rdField_nat (l : List S69) (i : Nat) (h : i < l.length) : rd_T69 l (i : Int) = l[i] := by simp [rd_T69, List.getD_eq_getElem?_getD, h]
theorem markFieldS_loop (m : Int) (n : Nat) (hm : -1 ≤ m ∧ m ≤ 1152921504606846976) (hn : n ≤ 140737488355328) : ∀ (d k i : Nat) (x : List S69), i + d = n → d < k → x.length = n → (∀ j : Nat, j < i → x[j]? = some ⟨(m + 2 * (j : Int)), (m + 2 * (j : Int)) + 1⟩) → laws_markFieldS.l0 k x (m + 2 * (i : Int)) (i : Int) = some (m + 2 * (n : Int), marksField m n) := by
  intro d
  induction d with
  | zero =>
    intro k i x h1 hk hx he
    obtain ⟨k, rfl⟩ : ∃ m, k = m + 1 := ⟨k - 1, by omega⟩
    rw [laws_markFieldS.l0, if_neg (by omega)]
    have e : x = marksField m n := by
      apply List.ext_getElem?
      intro j
      by_cases hj : j < n
      · rw [he j (by omega)]; simp [marksField, hj]
      · rw [List.getElem?_eq_none (by omega), List.getElem?_eq_none (by rw [marksField_len]; omega)]
    rw [e, show i = n by omega]
  | succ d ih =>
    intro k i x h1 hk hx he
    obtain ⟨k, rfl⟩ : ∃ m, k = m + 1 := ⟨k - 1, by omega⟩
    rw [laws_markFieldS.l0, if_pos (by omega), if_pos (by omega)]
    simp only [Option.bind_some, rdField_set x i _ (show i < x.length by omega), List.set_set]
    rw [wsucc (by omega), w64 (x := m + 2 * (i : Int) + 1) (by omega) (by omega), w64 (x := m + 2 * (i : Int) + 1 + 1) (by omega) (by omega), show m + 2 * (i : Int) + 1 + 1 = m + 2 * ((i + 1 : Nat) : Int) by omega]
    refine ih k (i + 1) _ (by omega) (by omega) (by simpa using hx) ?_
    intro j hj
    rw [Int.toNat_natCast, List.getElem?_set]
    by_cases e : i = j
    · subst e; simp [show i < x.length by omega]
    · rw [if_neg e]; exact he j (by omega)
theorem markFieldS_eq (l : List S69) (m : Int) (hm : -1 ≤ m ∧ m ≤ 1152921504606846976) (hn : l.length ≤ 140737488355328) (k : Nat) (hk : l.length < k) : laws_markFieldS.f k l m = some (m + 2 * (l.length : Int), marksField m l.length) := by
  unfold laws_markFieldS.f
  have := markFieldS_loop m l.length hm hn l.length k 0 l (by omega) hk rfl (by intro j hj; omega)
  simpa using this
theorem eqByteS_loop (l : List Int) (hl : l.length ≤ 4611686018427387904) : ∀ (d k i : Nat), i + d = l.length → d < k → laws_eqByteS.l0 k l l (i : Int) = some true := by
  intro d
  induction d with
  | zero =>
    intro k i hi hk
    obtain ⟨k, rfl⟩ : ∃ m, k = m + 1 := ⟨k - 1, by omega⟩
    rw [laws_eqByteS.l0, if_neg (by omega)]
  | succ d ih =>
    intro k i hi hk
    obtain ⟨k, rfl⟩ : ∃ m, k = m + 1 := ⟨k - 1, by omega⟩
    rw [laws_eqByteS.l0, if_pos (by omega), if_pos (by omega), if_pos (by omega), if_pos rfl, wsucc (by omega)]
    exact ih k (i + 1) (by omega) (by omega)
theorem eqByteS_refl (l : List Int) (hl : l.length ≤ 4611686018427387904) (k : Nat) (hk : l.length < k) : laws_eqByteS.f k l l = some true := by
  unfold laws_eqByteS.f
  rw [if_pos rfl]
  exact eqByteS_loop l hl l.length k 0 (by omega) hk

def bmarks (n : Nat) : List Int := (List.range n).map fun j : Nat => ((j : Int) + 1) % 256
theorem bmarks_len (n : Nat) : (bmarks n).length = n := by simp [bmarks]
theorem markByteS_loop (n : Nat) (hn : n ≤ 4611686018427387904) : ∀ (d k i : Nat) (x : List Int), i + d = n → d < k → x.length = n → (∀ j, j < i → x[j]? = some (((j : Int) + 1) % 256)) → laws_markByteS.l0 k x ((i : Int) + 1) (i : Int) = some ((n : Int) + 1, bmarks n) := by
  intro d
  induction d with
  | zero =>
    intro k i x h1 hk hx he
    obtain ⟨k, rfl⟩ : ∃ m, k = m + 1 := ⟨k - 1, by omega⟩
    rw [laws_markByteS.l0, if_neg (by omega)]
    have e : x = bmarks n := by
      apply List.ext_getElem?
      intro j
      by_cases hj : j < n
      · rw [he j (by omega)]; simp [bmarks, hj]
      · rw [List.getElem?_eq_none (by omega), List.getElem?_eq_none (by rw [bmarks_len]; omega)]
    rw [e, show i = n by omega]
  | succ d ih =>
    intro k i x h1 hk hx he
    obtain ⟨k, rfl⟩ : ∃ m, k = m + 1 := ⟨k - 1, by omega⟩
    rw [laws_markByteS.l0, if_pos (by omega), if_pos (by omega), wsucc (by omega), w64 (by omega) (by omega), show (i : Int) + 1 + 1 = ((i + 1 : Nat) : Int) + 1 by omega]
    refine ih k (i + 1) _ (by omega) (by omega) (by simpa using hx) ?_
    intro j hj
    rw [Int.toNat_natCast, List.getElem?_set]
    by_cases e : i = j
    · subst e; simp [show i < x.length by omega]
    · rw [if_neg e]; exact he j (by omega)
theorem markByteS_eq (l : List Int) (hn : l.length ≤ 4611686018427387904) (k : Nat) (hk : l.length < k) : laws_markByteS.f k l 1 = some ((l.length : Int) + 1, bmarks l.length) := by
  unfold laws_markByteS.f
  exact markByteS_loop l.length hn l.length k 0 l (by omega) hk rfl (by intro j hj; omega)
theorem heldByteS_loop (n : Nat) (hn : n ≤ 4611686018427387904) : ∀ (d k i : Nat), i + d = n → d < k → laws_heldByteS.l0 k (bmarks n) ((i : Int) + 1) (i : Int) = some ((n : Int) + 1) := by
  intro d
  have hl := bmarks_len n
  induction d with
  | zero =>
    intro k i h1 hk
    obtain ⟨k, rfl⟩ : ∃ m, k = m + 1 := ⟨k - 1, by omega⟩
    rw [laws_heldByteS.l0, if_neg (by omega), show i = n by omega]
  | succ d ih =>
    intro k i h1 hk
    obtain ⟨k, rfl⟩ : ∃ m, k = m + 1 := ⟨k - 1, by omega⟩
    rw [laws_heldByteS.l0, if_pos (by omega), if_pos (by omega), rd_nat (bmarks n) i (by omega), if_pos (by simp [bmarks]), wsucc (by omega), w64 (by omega) (by omega), show (i : Int) + 1 + 1 = ((i + 1 : Nat) : Int) + 1 by omega]
    exact ih k (i + 1) (by omega) (by omega)
theorem heldByteS_eq (n : Nat) (hn : n ≤ 4611686018427387904) (k : Nat) (hk : n < k) : laws_heldByteS.f k (bmarks n) 1 = some ((n : Int) + 1) := by
  unfold laws_heldByteS.f
  exact heldByteS_loop n hn n k 0 (by omega) hk

theorem FnExactPackBits (l : List S72) (hm : l.length ≤ maxLen) (hQ : ∀ v ∈ l, (Lit.int .i64 v.f0).wf = true ∧ (Lit.int .i64 v.f1).wf = true) : ∃ k, laws_FnExactPackBits.f k l = some true := by
  unfold maxLen at hm
  obtain ⟨K, hK⟩ : ∃ K, K = 2 * l.length + 800000 := ⟨_, rfl⟩
  refine ⟨K + 1, ?_⟩
  unfold laws_FnExactPackBits.f laws_szFieldS.f
  rw [w64 (by omega) (by omega)]
  by_cases h : 1048576 - (l.length : Int) < 0
  · rw [if_pos h]; rfl
  rw [if_neg h, Option.bind_some, if_neg h]
  have hml : (l.map toF).length = l.length := by simp
  have hrl := packR_len (l.map toF)
  have e1 := toFieldS_eq l (by omega)
  have e2 := specPack_eq (l.map toF) (by omega)
  have e3 := implPack_eq (l.map toF) (by omega)
  obtain ⟨r, hr⟩ : ∃ r, r = packR (l.map toF) := ⟨_, rfl⟩
  rw [← hr] at e2 e3 hrl
  have e4 := eqFieldS_refl (l.map toF) (by omega)
  have e5 := eqByteS_refl r (by omega)
  have e6 := markFieldS_eq (l.map toF) 1 (by omega) (by omega)
  have e7 := markByteS_eq r (by omega)
  have e8 := heldByteS_eq r.length (by omega)
  have g1 : ¬ (1 + 2 * ((l.map toF).length : Int) < 0) := by omega
  have g2 : ¬ ((r.length : Int) + 1 < 0) := by omega
  simp (disch := omega) only [e1, e2, e3, e4, e5, e6, Option.bind_some, if_true, if_neg g1]
  rw [laws_FnExactPackBits.j0]
  simp (disch := omega) only [e1, e3, e5, e7, e8, Option.bind_some, if_true, if_neg g2, Bool.not_true, Bool.false_eq_true, if_false]

end Go.Proofs.Yticlmpkbcmanfaa.Pure
