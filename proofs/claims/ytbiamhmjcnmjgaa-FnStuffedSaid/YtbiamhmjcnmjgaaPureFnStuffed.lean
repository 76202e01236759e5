/- The pure statement of the law FnStuffed, for every input that its guards let in. -/
import Derived.Test.YtbiamhmjcnmjgaaPFnStuffedx3
import Derived.Test.YtbiamhmjcnmjgaaWSized
-- The printed row names this word without its seat: the same fact under that name.
namespace Go.Proofs.PrintWords
theorem sized_ints {H : Type} {enc : TypeId × Value → H} {P : Program} {W : World} {base : Nat} {spare : Nat → Bool} {held : Bool} {t e : TypeId} {k : IntKind} {a : Option Addr} {len cap : Nat} {d : DataW H} {ps : List MemPlace} {ts : List TypeId} {ds : List (DataW H)} {j : Nat} (hsz : (DataW.weightsEach P ts ds).all (· ≤ reachBytes) = true) (ht : ts[j]? = some t) (hd : ds[j]? = some d) (hu : P.underlying t = some (.slice e)) (he : P.underlying e = some (.int k)) (hc : P.cellsOf e = 1) {B : Nat} (hB : P.bytesOf e = B) (h : DataW.Trod enc P W base spare held t (.slice a len cap) d ps) : len * B ≤ 140737488351232 := Go.Proofs.YtbiamhmjcnmjgaaW.PrintWords.sized_ints hsz ht hd hu he hc hB h
end Go.Proofs.PrintWords
namespace Go.Proofs.Ytbiamhmjcnmjgaa.Pure
open Go.RowKit Go.Proofs.Ytbiamhmjcnmjgaa.PFnStuffed Go.Proofs.YtbiamhmjcnmjgaaW.PrintWords Go.Proofs.YtbiamhmjcnmjgaaW.PrintLast Go.Proofs.YtbiamhmjcnmjgaaW.PrintMore
set_option linter.unusedVariables false
set_option linter.unusedSimpArgs false
set_option maxRecDepth 4000

theorem w64 {x : Int} (h1 : -9223372036854775808 ≤ x) (h2 : x ≤ 9223372036854775807) : wrap64 x = x := by unfold wrap64; omega
theorem wsucc {i : Nat} (h : i ≤ 4611686018427387904) : wrap64 ((i : Int) + 1) = ((i + 1 : Nat) : Int) := by unfold wrap64; omega
theorem rd_nat (l : List Int) (i : Nat) (h : i < l.length) : rd l (i : Int) = l[i] := by simp [rd, List.getD_eq_getElem?_getD, h]
theorem drop_at {α : Type} (l : List α) (i : Nat) (h : i < l.length) : l.drop i = l[i] :: l.drop (i + 1) := List.drop_eq_getElem_cons h
theorem wf64 {x : Int} (h : (Lit.int .i64 x).wf = true) : -9223372036854775808 ≤ x ∧ x ≤ 9223372036854775807 := by
  simp [Lit.wf, IntKind.min, IntKind.max, IntKind.bits, IntKind.signed] at h; omega
theorem wfu8 {x : Int} (h : (Lit.int .u8 x).wf = true) : 0 ≤ x ∧ x ≤ 255 := by
  simp [Lit.wf, IntKind.min, IntKind.max, IntKind.bits, IntKind.signed] at h; omega

theorem tdw {x y : Int} (h0 : 0 ≤ x) (h1 : x ≤ 4611686018427387904) (hy : 0 < y) : wrap64 (Int.tdiv x y) = x / y := by
  rw [Int.tdiv_eq_ediv_of_nonneg h0]
  have a := Int.ediv_nonneg h0 (Int.le_of_lt hy)
  have b := Int.ediv_le_self y h0
  exact w64 (by omega) (by omega)
theorem div_bd {x y : Int} (h0 : 0 ≤ x) (hy : 0 < y) : 0 ≤ x / y ∧ x / y ≤ x := ⟨Int.ediv_nonneg h0 (Int.le_of_lt hy), Int.ediv_le_self y h0⟩

def BytesL (l : List Int) : Prop := l.length ≤ 1048576 ∧ ∀ x ∈ l, 0 ≤ x ∧ x ≤ 255
theorem rd_byte {l : List Int} (h : BytesL l) (i : Int) (h0 : 0 ≤ i) (h1 : i < (l.length : Int)) : 0 ≤ rd l i ∧ rd l i ≤ 255 := by
  obtain ⟨n, rfl⟩ := Int.eq_ofNat_of_zero_le h0
  have hn : n < l.length := by omega
  rw [rd_nat l n hn]
  exact h.2 _ (List.getElem_mem hn)
def CurOk (a s b : Int) : Prop := 0 ≤ a ∧ a ≤ b ∧ b ≤ 1152921504606846976 ∧ 0 ≤ s ∧ s ≤ 65521
theorem tmodw {x y : Int} (h0 : 0 ≤ x) (hy : 0 < y) : 0 ≤ Int.tmod x y ∧ Int.tmod x y < y := by
  rw [Int.tmod_eq_emod_of_nonneg h0]
  exact ⟨Int.emod_nonneg _ (by omega), Int.emod_lt_of_pos _ hy⟩
theorem pick_ok {l : List Int} (hl : BytesL l) {a s b : Int} (n : Int) (hc : CurOk a s b) (hb : b + 2 ≤ 1152921504606846976) (hn : 1 ≤ n) : ∃ r a' s', spec_l01Cur_pick.f l a s n = some (r, a', s') ∧ 0 ≤ r ∧ r < n ∧ CurOk a' s' (b + 2) := by
  obtain ⟨h1, h2, h3, h4, h5⟩ := hc
  have hll := hl.1
  unfold spec_l01Cur_pick.f
  by_cases c1 : n < 2
  · exact ⟨0, a, s, by rw [if_pos c1], by omega, by omega, by omega, by omega, hb, h4, h5⟩
  rw [if_neg c1]
  by_cases c2 : a < (l.length : Int)
  · rw [if_pos c2, if_pos h1, w64 (x := a + 1) (by omega) (by omega)]
    have r1 := rd_byte hl a h1 c2
    have t1 := tmodw (x := rd l a) (y := n) (by omega) (by omega)
    by_cases c3 : n > 256
    · rw [if_pos c3]
      by_cases c4 : a + 1 < (l.length : Int)
      · have r2 := rd_byte hl (a + 1) (by omega) c4
        have t2 := tmodw (x := 256 * rd l a + rd l (a + 1)) (y := n) (by omega) (by omega)
        rw [if_pos c4, if_pos (by omega), if_neg (by omega)]
        refine ⟨_, _, _, rfl, ?_, ?_, ?_⟩
        · rw [w64 (x := rd l a) (by omega) (by omega), w64 (x := 256 * rd l a) (by omega) (by omega), w64 (x := rd l (a + 1)) (by omega) (by omega), w64 (by omega) (by omega)]; exact t2.1
        · rw [w64 (x := rd l a) (by omega) (by omega), w64 (x := 256 * rd l a) (by omega) (by omega), w64 (x := rd l (a + 1)) (by omega) (by omega), w64 (by omega) (by omega)]; exact t2.2
        · rw [w64 (x := a + 1 + 1) (by omega) (by omega)]; exact ⟨by omega, by omega, hb, h4, h5⟩
      · rw [if_neg c4, if_neg (by omega), w64 (x := rd l a) (by omega) (by omega)]
        exact ⟨_, _, _, rfl, t1.1, t1.2, by omega, by omega, hb, h4, h5⟩
    · rw [if_neg c3, if_neg (by omega), w64 (x := rd l a) (by omega) (by omega)]
      exact ⟨_, _, _, rfl, t1.1, t1.2, by omega, by omega, hb, h4, h5⟩
  · rw [if_neg c2, w64 (x := s * 1103) (by omega) (by omega), w64 (x := s * 1103 + 12345) (by omega) (by omega), w64 (x := a + 1) (by omega) (by omega)]
    have t3 := tmodw (x := s * 1103 + 12345) (y := 65521) (by omega) (by omega)
    rw [tdw (x := Int.tmod (s * 1103 + 12345) 65521) (by omega) (by omega) (by omega)]
    have d3 := div_bd (x := Int.tmod (s * 1103 + 12345) 65521) (y := 3) (by omega) (by omega)
    by_cases c5 : (l.length : Int) > 0
    · have t4 := tmodw (x := a) (y := (l.length : Int)) h1 c5
      have r4 := rd_byte hl (Int.tmod a (l.length : Int)) t4.1 t4.2
      rw [if_pos c5, if_neg (by omega), if_pos t4.1, if_pos t4.2, if_neg (by omega), w64 (x := rd l (Int.tmod a (l.length : Int))) (by omega) (by omega), w64 (x := Int.tmod (s * 1103 + 12345) 65521 / 3 + rd l (Int.tmod a (l.length : Int))) (by omega) (by omega)]
      have t5 := tmodw (x := Int.tmod (s * 1103 + 12345) 65521 / 3 + rd l (Int.tmod a (l.length : Int))) (y := n) (by omega) (by omega)
      exact ⟨_, _, _, rfl, t5.1, t5.2, by omega, by omega, hb, t3.1, by omega⟩
    · rw [if_neg c5, if_neg (by omega)]
      have t5 := tmodw (x := Int.tmod (s * 1103 + 12345) 65521 / 3) (y := n) (by omega) (by omega)
      exact ⟨_, _, _, rfl, t5.1, t5.2, by omega, by omega, hb, t3.1, by omega⟩
theorem open_ok {l : List Int} (hl : BytesL l) : ∃ s, spec_l01Open.f l = some (l, 0, s) ∧ CurOk 0 s 0 := by
  refine ⟨13 + ((l.length : Int) % 1000), rfl, by omega, by omega, by omega, by omega, by omega⟩

def inR (lo hi : Int) (l : List Int) : Bool := l.all fun x => decide (lo ≤ x ∧ x ≤ hi)
theorem inR_nil (lo hi : Int) : inR lo hi [] = true := rfl
theorem inR_cons (lo hi x : Int) (l : List Int) : inR lo hi (x :: l) = (decide (lo ≤ x ∧ x ≤ hi) && inR lo hi l) := rfl
theorem inR_at {lo hi : Int} {l : List Int} (h : inR lo hi l = true) (i : Nat) (hi' : i < l.length) : lo ≤ l[i] ∧ l[i] ≤ hi := by
  unfold inR at h; rw [List.all_eq_true] at h; simpa using h l[i] (List.getElem_mem hi')

theorem rd_getD (l : List Int) (i : Nat) : rd l (i : Int) = l.getD i 0 := by simp [rd]
theorem push_loop {α β : Type} (F : Nat → List α → Int → Option β) (g : Nat → α) (n : Nat) (res : β)
    (hstep : ∀ (k i : Nat) (a : List α), i < n → a.length = i → F (k + 1) a (i : Int) = F k (a ++ [g i]) ((i + 1 : Nat) : Int))
    (hend : ∀ k : Nat, F (k + 1) ((List.range n).map g) (n : Int) = some res) : ∀ k : Nat, n < k → F k [] 0 = some res := by
  have main : ∀ (d k i : Nat), i + d = n → d < k → F k ((List.range i).map g) (i : Int) = some res := by
    intro d
    induction d with
    | zero =>
      intro k i h1 hk
      obtain ⟨k, rfl⟩ : ∃ m, k = m + 1 := ⟨k - 1, by omega⟩
      obtain rfl : i = n := by omega
      exact hend k
    | succ d ih =>
      intro k i h1 hk
      obtain ⟨k, rfl⟩ : ∃ m, k = m + 1 := ⟨k - 1, by omega⟩
      rw [hstep k i _ (by omega) (by simp)]
      have e : (List.range (i + 1)).map g = (List.range i).map g ++ [g i] := by rw [List.range_succ, List.map_append]; rfl
      rw [← e]
      exact ih k (i + 1) (by omega) (by omega)
  intro k hk
  exact main n k 0 (by omega) hk
theorem state_loop {σ β : Type} (F : Nat → σ → Int → Option β) (s : Nat → σ) (n : Nat) (res : β)
    (hstep : ∀ (k i : Nat), i < n → F (k + 1) (s i) (i : Int) = F k (s (i + 1)) ((i + 1 : Nat) : Int))
    (hend : ∀ k : Nat, F (k + 1) (s n) (n : Int) = some res) : ∀ k : Nat, n < k → F k (s 0) 0 = some res := by
  have main : ∀ (d k i : Nat), i + d = n → d < k → F k (s i) (i : Int) = some res := by
    intro d
    induction d with
    | zero =>
      intro k i h1 hk
      obtain ⟨k, rfl⟩ : ∃ m, k = m + 1 := ⟨k - 1, by omega⟩
      obtain rfl : i = n := by omega
      exact hend k
    | succ d ih =>
      intro k i h1 hk
      obtain ⟨k, rfl⟩ : ∃ m, k = m + 1 := ⟨k - 1, by omega⟩
      rw [hstep k i (by omega)]
      exact ih k (i + 1) (by omega) (by omega)
  intro k hk
  exact main n k 0 (by omega) hk
theorem inR_getD {lo hi : Int} {l : List Int} (h : inR lo hi l = true) (i : Nat) (h' : i < l.length) : lo ≤ l.getD i 0 ∧ l.getD i 0 ≤ hi := by
  have := inR_at h i h'
  simpa [List.getD_eq_getElem?_getD, h'] using this

theorem size_ok {l : List Int} (hl : BytesL l) {a s b : Int} (n : Int) (hc : CurOk a s b) (hb : b + 2 ≤ 1152921504606846976) (hn : 0 ≤ n ∧ n ≤ 1000000) : ∃ r a' s', spec_l01Cur_size.f l a s n = some (r, a', s') ∧ 0 ≤ r ∧ r ≤ n ∧ CurOk a' s' (b + 2) := by
  have hll := hl.1
  unfold spec_l01Cur_size.f
  rw [w64 (x := ((l.length : Int) / 10)) (by omega) (by omega), w64 (x := 1 + ((l.length : Int) / 10)) (by omega) (by omega), w64 (x := n + 1) (by omega) (by omega), w64 (x := 1 + ((l.length : Int) / 10) + 1) (by omega) (by omega)]
  by_cases h : 1 + (l.length : Int) / 10 > n
  · obtain ⟨r, a', s', e, h0, h1, h2⟩ := pick_ok hl (n + 1) hc hb (by omega)
    rw [if_pos h, e]
    exact ⟨_, _, _, rfl, h0, by omega, h2⟩
  · obtain ⟨r, a', s', e, h0, h1, h2⟩ := pick_ok hl (1 + (l.length : Int) / 10 + 1) hc hb (by omega)
    rw [if_neg h, e]
    exact ⟨_, _, _, rfl, h0, by omega, h2⟩
theorem pickL5 (x y : Int) (hx : 0 ≤ x ∧ x < 256) (hy : 0 ≤ y ∧ y < 256) (r : Int) (h0 : 0 ≤ r) (h1 : r < 5) : 0 ≤ rd [x % 256, 255, 0, 1, y % 256] r ∧ rd [x % 256, 255, 0, 1, y % 256] r ≤ 255 := by
  have hr : r = 0 ∨ r = 1 ∨ r = 2 ∨ r = 3 ∨ r = 4 := by omega
  rcases hr with rfl | rfl | rfl | rfl | rfl <;> simp [rd] <;> omega
theorem drawBytes_loop {l : List Int} (hl : BytesL l) : ∀ (d : Nat) (k : Nat) (o : List Int) (a s b : Int), d < k → CurOk a s b → b + 6 * d ≤ 1152921504606846976 → o.length + d ≤ 1000000 → (∀ x ∈ o, 0 ≤ x ∧ x ≤ 255) → ∃ o' a' s', spec_l01DrawBytes.l0 k o (d : Int) l a s = some (o', a', s') ∧ o'.length = o.length + d ∧ (∀ x ∈ o', 0 ≤ x ∧ x ≤ 255) ∧ CurOk a' s' (b + 6 * d) := by
  intro d
  induction d with
  | zero =>
    intro k o a s b hk hc hb ho hr
    obtain ⟨k, rfl⟩ : ∃ m, k = m + 1 := ⟨k - 1, by omega⟩
    exact ⟨o, a, s, by rw [spec_l01DrawBytes.l0, if_neg (by omega)], by omega, hr, by rw [show b + 6 * ((0 : Nat) : Int) = b by omega]; exact hc⟩
  | succ d ih =>
    intro k o a s b hk hc hb ho hr
    obtain ⟨k, rfl⟩ : ∃ m, k = m + 1 := ⟨k - 1, by omega⟩
    obtain ⟨r1, a1, s1, e1, p1, q1, c1⟩ := pick_ok hl 256 hc (by omega) (by omega)
    obtain ⟨r2, a2, s2, e2, p2, q2, c2⟩ := pick_ok hl 256 c1 (by omega) (by omega)
    obtain ⟨r3, a3, s3, e3, p3, q3, c3⟩ := pick_ok hl 5 c2 (by omega) (by omega)
    have hv := pickL5 r1 r2 ⟨p1, q1⟩ ⟨p2, q2⟩ r3 p3 q3
    rw [spec_l01DrawBytes.l0, if_pos (by omega)]
    simp only [e1, e2, e3, Option.bind_some]
    rw [if_pos p3, if_pos (by simpa using q3), if_pos (by omega), w64 (by omega) (by omega), show ((d + 1 : Nat) : Int) - 1 = (d : Int) by omega]
    obtain ⟨o', a', s', e, g1, g2, g3⟩ := ih k (o ++ [rd [r1 % 256, 255, 0, 1, r2 % 256] r3]) a3 s3 (b + 2 + 2 + 2) (by omega) c3 (by omega) (by simp; omega) (by
      intro x hx
      rcases List.mem_append.1 hx with hx | hx
      · exact hr x hx
      · rw [List.mem_singleton.1 hx]; exact hv)
    refine ⟨o', a', s', e, by simp at g1; omega, g2, ?_⟩
    rw [show b + 6 * ((d + 1 : Nat) : Int) = b + 2 + 2 + 2 + 6 * (d : Int) by omega]
    exact g3
theorem drawBytes_ok {l : List Int} (hl : BytesL l) {a s b : Int} (n : Int) (hc : CurOk a s b) (hb : b + 6000010 ≤ 1152921504606846976) (hn : 0 ≤ n ∧ n ≤ 1000000) (k : Nat) (hk : n < (k : Int)) : ∃ o a' s', spec_l01DrawBytes.f k l a s n = some (o, a', s') ∧ (o.length : Int) ≤ n ∧ (∀ x ∈ o, 0 ≤ x ∧ x ≤ 255) ∧ CurOk a' s' (b + 2 + 6 * n) := by
  unfold spec_l01DrawBytes.f
  obtain ⟨r, a1, s1, e1, p1, q1, c1⟩ := size_ok hl n hc (by omega) hn
  obtain ⟨d, rfl⟩ := Int.eq_ofNat_of_zero_le p1
  obtain ⟨o, a2, s2, e2, g1, g2, g3⟩ := drawBytes_loop hl d k [] a1 s1 (b + 2) (by omega) c1 (by omega) (by simp; omega) (by simp)
  rw [e1]
  obtain ⟨h1, h2, h3, h4, h5⟩ := g3
  exact ⟨o, a2, s2, e2, by rw [List.length_nil] at g1; omega, g2, h1, by omega, by omega, h4, h5⟩

theorem sameBytes_loop (l : List Int) (hl : l.length ≤ 4611686018427387904) : ∀ (d k i : Nat), i + d = l.length → d < k → laws_sameBytes.l0 k l l (i : Int) = some true := by
  intro d
  induction d with
  | zero =>
    intro k i hi hk
    obtain ⟨k, rfl⟩ : ∃ m, k = m + 1 := ⟨k - 1, by omega⟩
    rw [laws_sameBytes.l0, if_neg (by omega)]
  | succ d ih =>
    intro k i hi hk
    obtain ⟨k, rfl⟩ : ∃ m, k = m + 1 := ⟨k - 1, by omega⟩
    rw [laws_sameBytes.l0, if_pos (by omega), if_pos (by omega), if_pos (by omega), if_pos rfl, wsucc (by omega)]
    exact ih k (i + 1) (by omega) (by omega)
theorem sameBytes_refl (l : List Int) (hl : l.length ≤ 4611686018427387904) (k : Nat) (hk : l.length < k) : laws_sameBytes.f k l l = some true := by
  unfold laws_sameBytes.f
  rw [if_pos rfl]
  exact sameBytes_loop l hl l.length k 0 (by omega) hk

def stuffL : List Int → List Int
  | [] => []
  | x :: xs => if x = 255 then x :: 0 :: stuffL xs else x :: stuffL xs
theorem stuffL_len : ∀ l : List Int, (stuffL l).length ≤ 2 * l.length
  | [] => by simp [stuffL]
  | x :: xs => by
    have := stuffL_len xs
    unfold stuffL; split <;> simp <;> omega
theorem specStuff_loop (l : List Int) (hl : l.length ≤ 1048576) : ∀ (d k i : Nat) (a : List Int), i + d = l.length → d < k → a.length ≤ 2 * i → spec_Stuff.l0 k l a (i : Int) = some (a ++ stuffL (l.drop i)) := by
  intro d
  induction d with
  | zero =>
    intro k i a h1 hk ha
    obtain ⟨k, rfl⟩ : ∃ m, k = m + 1 := ⟨k - 1, by omega⟩
    rw [spec_Stuff.l0, if_neg (by omega), List.drop_eq_nil_of_le (by omega)]; simp [stuffL]
  | succ d ih =>
    intro k i a h1 hk ha
    obtain ⟨k, rfl⟩ : ∃ m, k = m + 1 := ⟨k - 1, by omega⟩
    rw [spec_Stuff.l0, if_pos (by omega), if_pos (by omega), if_pos (by omega), drop_at l i (by omega), stuffL, Option.bind_some, rd_nat l i (by omega), wsucc (by omega)]
    by_cases h : l[i] = 255
    · rw [if_pos h, if_pos (by simp; omega), if_pos h, ih k (i + 1) _ (by omega) (by omega) (by simp; omega)]; simp
    · rw [if_neg h, if_neg h, ih k (i + 1) _ (by omega) (by omega) (by simp; omega)]; simp
theorem specStuff_eq (l : List Int) (hl : l.length ≤ 1048576) (k : Nat) (hk : l.length < k) : spec_Stuff.f k l = some (if (l.length : Int) > 60000 then [] else stuffL l) := by
  unfold spec_Stuff.f
  rw [Option.bind_some]
  split
  · rfl
  · exact specStuff_loop l hl l.length k 0 [] (by omega) hk (by simp)
theorem stuffed_loop (l : List Int) (hl : l.length ≤ 1048576) : ∀ (d k i : Nat) (a : List Int), i + d = l.length → d < k → a.length ≤ 2 * i → impl_stuffed.l0 k a l (l.length : Int) (i : Int) = some (a ++ stuffL (l.drop i)) := by
  intro d
  induction d with
  | zero =>
    intro k i a h1 hk ha
    obtain ⟨k, rfl⟩ : ∃ m, k = m + 1 := ⟨k - 1, by omega⟩
    rw [impl_stuffed.l0, if_neg (by omega), List.drop_eq_nil_of_le (by omega)]; simp [stuffL]
  | succ d ih =>
    intro k i a h1 hk ha
    obtain ⟨k, rfl⟩ : ∃ m, k = m + 1 := ⟨k - 1, by omega⟩
    rw [impl_stuffed.l0, if_pos (by omega), if_pos (by omega), if_pos (by omega), if_pos (by omega), drop_at l i (by omega), stuffL, Option.bind_some, rd_nat l i (by omega), wsucc (by omega)]
    by_cases h : l[i] = 255
    · rw [if_pos h, if_pos (by simp; omega), if_pos h, ih k (i + 1) _ (by omega) (by omega) (by simp; omega)]; simp
    · rw [if_neg h, if_neg h, ih k (i + 1) _ (by omega) (by omega) (by simp; omega)]; simp
theorem stuffed_eq (l : List Int) (hl : l.length ≤ 1048576) (k : Nat) (hk : l.length < k) : impl_stuffed.f k l = some (stuffL l) := by
  unfold impl_stuffed.f
  exact stuffed_loop l hl l.length k 0 [] (by omega) hk (by simp)
theorem implStuff_eq (l : List Int) (hl : l.length ≤ 1048576) (k : Nat) (hk : l.length < k) : impl_Stuff.f k l = some (if (l.length : Int) > 60000 then [] else stuffL l) := by
  unfold impl_Stuff.f
  split
  · rfl
  · rw [stuffed_eq l hl k hk]; rfl

def unst : List Int → List Int × Nat
  | [] => ([], 0)
  | [x] => if x = 255 then ([], 0) else ([x], 1)
  | x :: y :: ys => if x = 255 then (if y = 0 then (255 :: (unst ys).1, (unst ys).2 + 2) else ([], 0)) else (x :: (unst (y :: ys)).1, (unst (y :: ys)).2 + 1)
theorem unst_len : ∀ (n : Nat) (l : List Int), l.length ≤ n → (unst l).1.length ≤ l.length ∧ (unst l).2 ≤ l.length := by
  intro n
  induction n with
  | zero => intro l h; have : l = [] := List.length_eq_zero_iff.1 (by omega); subst this; simp [unst]
  | succ n ih =>
    intro l h
    match l, h with
    | [], _ => simp [unst]
    | [x], _ => unfold unst; split <;> simp
    | x :: y :: ys, h =>
      have h1 := ih ys (by simp at h; omega)
      have h2 := ih (y :: ys) (by simp at h ⊢; omega)
      simp at h2
      unfold unst; split
      · split <;> simp <;> omega
      · simp; omega

theorem implUnstuff_loop (l : List Int) (hl : l.length ≤ 1048576) : ∀ (d k i : Nat) (a : List Int), i + d = l.length → 2 * d < k → a.length ≤ i → impl_Unstuff.l0 k l a (i : Int) = some (a ++ (unst (l.drop i)).1, (i : Int) + ((unst (l.drop i)).2 : Int)) := by
  intro d
  induction d using Nat.strongRecOn with
  | ind d ih =>
    intro k i a h1 hk ha
    obtain ⟨k, rfl⟩ : ∃ m, k = m + 1 := ⟨k - 1, by omega⟩
    by_cases hd : d = 0
    · rw [impl_Unstuff.l0, if_neg (by omega), List.drop_eq_nil_of_le (by omega)]; simp [unst]; omega
    · obtain ⟨k, rfl⟩ : ∃ m, k = m + 1 := ⟨k - 1, by omega⟩
      rw [impl_Unstuff.l0, if_pos (by omega), if_pos (by omega), rd_nat l i (by omega), wsucc (by omega), drop_at l i (by omega)]
      have push : ∀ b : Bool, b = false → impl_Unstuff.j1 (k + 1) l a (i : Int) b = (if l[i] = 255 then impl_Unstuff.l0 k l (a ++ [l[i]]) (wrap64 (((i + 1 : Nat) : Int) + 1)) else impl_Unstuff.l0 k l (a ++ [l[i]]) ((i + 1 : Nat) : Int)) := by
        intro b hb
        subst hb
        rw [impl_Unstuff.j1, if_neg (by simp), if_pos (by omega), if_pos (by omega), if_pos (by omega), Option.bind_some, rd_nat l i (by omega), wsucc (by omega)]
      by_cases h : l[i] = 255
      · rw [if_pos h]
        by_cases h2 : i + 1 = l.length
        · rw [if_pos (by omega), List.drop_eq_nil_of_le (by omega), impl_Unstuff.j1]; simp [unst, h]
        · rw [if_neg (by omega), if_pos (by omega), if_pos (by omega), rd_nat l (i + 1) (by omega), drop_at l (i + 1) (by omega)]
          by_cases h3 : l[i + 1] = 0
          · rw [push _ (by simp [h3]), if_pos h, wsucc (by omega), ih (d - 2) (by omega) k (i + 1 + 1) _ (by omega) (by omega) (by simp; omega)]
            simp [unst, h, h3]; omega
          · rw [impl_Unstuff.j1, if_pos (by simpa using h3)]; simp [unst, h, h3]
      · rw [if_neg h, push _ rfl, if_neg h, ih (d - 1) (by omega) k (i + 1) _ (by omega) (by omega) (by simp; omega)]
        by_cases h2 : i + 1 = l.length
        · rw [List.drop_eq_nil_of_le (show l.length ≤ i + 1 by omega)]; simp [unst, h]
        · rw [drop_at l (i + 1) (by omega)]; simp [unst, h]; omega
theorem implUnstuff_eq (l : List Int) (hl : l.length ≤ 1048576) (k : Nat) (hk : 2 * l.length < k) : impl_Unstuff.f k l = some ((unst l).1, ((unst l).2 : Int)) := by
  unfold impl_Unstuff.f
  have := implUnstuff_loop l hl l.length k 0 [] (by omega) hk (by simp)
  simpa using this

theorem lawPick_ok {l : List Int} (hl : BytesL l) (p n : Int) (hp : 0 ≤ p ∧ p ≤ 1000000) (hn : 2 ≤ n) (k : Nat) (hk : 6 ≤ k) : ∃ r, laws_pick.f k l p n = some r ∧ 0 ≤ r ∧ r < n := by
  obtain ⟨k, rfl⟩ : ∃ m, k = m + 5 := ⟨k - 5, by omega⟩
  have hll := hl.1
  unfold laws_pick.f
  by_cases h : (l.length : Int) = 0
  · rw [if_pos h, laws_pick.j0, if_pos rfl]
    exact ⟨0, rfl, by omega, by omega⟩
  · rw [if_neg h, laws_pick.j0, if_neg (by simp; omega)]
    have step : ∀ (m : Nat) (x i : Int), 0 ≤ x → x ≤ 300000 → 0 ≤ i → i < 3 → ∃ v, 0 ≤ v ∧ v ≤ 255 ∧ laws_pick.l0 (m + 1) l p n x i = laws_pick.l0 m l p n (31 * x + v) (i + 1) := by
      intro m x i h0 h1 h2 h3
      have t := tmodw (x := p + i) (y := (l.length : Int)) (by omega) (by omega)
      have r := rd_byte hl _ t.1 t.2
      refine ⟨rd l (Int.tmod (p + i) (l.length : Int)), r.1, r.2, ?_⟩
      rw [laws_pick.l0, if_pos h3, if_neg h, w64 (x := p + i) (by omega) (by omega), if_pos t.1, if_pos t.2, w64 (x := 31 * x) (by omega) (by omega), w64 (x := rd l (Int.tmod (p + i) (l.length : Int))) (by omega) (by omega), w64 (x := 31 * x + rd l (Int.tmod (p + i) (l.length : Int))) (by omega) (by omega), w64 (x := i + 1) (by omega) (by omega)]
    obtain ⟨v1, a1, b1, e1⟩ := step (k + 3) 0 0 (by omega) (by omega) (by omega) (by omega)
    obtain ⟨v2, a2, b2, e2⟩ := step (k + 2) (31 * 0 + v1) (0 + 1) (by omega) (by omega) (by omega) (by omega)
    obtain ⟨v3, a3, b3, e3⟩ := step (k + 1) (31 * (31 * 0 + v1) + v2) (0 + 1 + 1) (by omega) (by omega) (by omega) (by omega)
    rw [e1, e2, e3, laws_pick.l0, if_neg (by omega), if_neg (by omega), w64 (by omega) (by omega)]
    have t := tmodw (x := 31 * (31 * (31 * 0 + v1) + v2) + v3 + p) (y := n) (by omega) (by omega)
    exact ⟨_, rfl, t.1, t.2⟩

theorem big_no {l : List Int} (h : ¬ (l.length : Int) > 1048576) : laws_big.f l = some false := by unfold laws_big.f; rw [decide_eq_false h]
theorem big_yes {l : List Int} (h : (l.length : Int) > 1048576) : laws_big.f l = some true := by unfold laws_big.f; rw [decide_eq_true h]
theorem bytes_of {l : List Int} (h : ¬ (l.length : Int) > 1048576) (hw : ∀ x ∈ l, (Lit.int .u8 x).wf = true) : BytesL l := ⟨by omega, fun x hx => wfu8 (hw x hx)⟩

def goodS : List Int → Prop
  | [] => True
  | x :: xs => (x = 255 → ∃ ys, xs = 0 :: ys) ∧ goodS xs
theorem good_stuff : ∀ l : List Int, goodS (stuffL l)
  | [] => trivial
  | x :: xs => by
    have := good_stuff xs
    unfold stuffL
    split
    · exact ⟨fun _ => ⟨_, rfl⟩, fun h => absurd h (by decide), this⟩
    · rename_i h; exact ⟨fun h' => absurd h' h, this⟩
theorem unst_stuff (t : List Int) : (t = [] ∨ ∃ m, m ≠ 0 ∧ t = [255, m, 7]) → ∀ l : List Int, unst (stuffL l ++ t) = (l, (stuffL l).length)
  | ht, [] => by
    rcases ht with rfl | ⟨m, hm, rfl⟩
    · simp [stuffL, unst]
    · simp [stuffL, unst, hm]
  | ht, x :: xs => by
    have ih := unst_stuff t ht xs
    unfold stuffL
    by_cases h : x = 255
    · subst h
      rw [if_pos rfl]
      show unst (255 :: 0 :: (stuffL xs ++ t)) = _
      rw [unst, if_pos rfl, if_pos rfl, ih]; rfl
    · rw [if_neg h]
      show unst (x :: (stuffL xs ++ t)) = _
      cases hs : stuffL xs ++ t with
      | nil =>
        rw [hs] at ih
        rw [unst, if_neg h]
        have i1 : xs = [] := (congrArg Prod.fst ih).symm
        have i2 : (stuffL xs).length = 0 := (congrArg Prod.snd ih).symm
        rw [i1] at i2 ⊢
        simp [stuffL]
      | cons y ys =>
        rw [hs] at ih
        rw [unst, if_neg h, ih]; rfl
theorem stuffed_tail {l : List Int} (hl : BytesL l) (x : List Int) (hx : x.length ≤ 60) : ∀ k : Nat, 500 ≤ k → laws_FnStuffed.l0 (k + 1) l x (stuffL x) ((stuffL x).length : Int) = some true := by
  have hsl := stuffL_len x
  intro k hk
  rw [laws_FnStuffed.l0, if_neg (by omega)]
  obtain ⟨t, et, t0, t1⟩ := lawPick_ok hl 0 255 (by omega) (by omega) k (by omega)
  have hmark : (wrap64 (1 + t)) % 256 ≠ 0 := by rw [w64 (by omega) (by omega)]; omega
  have u1 := implUnstuff_eq (stuffL x ++ [255, (wrap64 (1 + t)) % 256, 7]) (by simp; omega) k (by simp; omega)
  have u2 := implUnstuff_eq (stuffL x) (by omega) k (by omega)
  rw [unst_stuff _ (.inr ⟨_, hmark, rfl⟩)] at u1
  have u3 := unst_stuff [] (.inl rfl) x
  rw [List.append_nil] at u3
  rw [u3] at u2
  have u4 := sameBytes_refl x (by omega) k (by omega)
  simp only [Option.bind_some, List.nil_append, et, u1, u2, u4]
  rw [if_pos (by simp; omega), if_pos (by simp; omega)]
  simp
theorem stuffed_all {l : List Int} (hl : BytesL l) (x : List Int) (hx : x.length ≤ 60) : ∀ (d k i : Nat), i + d = (stuffL x).length → 501 + d ≤ k → goodS ((stuffL x).drop i) → laws_FnStuffed.l0 k l x (stuffL x) (i : Int) = some true := by
  have hsl := stuffL_len x
  have tail := stuffed_tail hl x hx
  intro d
  induction d with
  | zero =>
    intro k i hi hk _
    obtain ⟨k, rfl⟩ : ∃ m, k = m + 1 := ⟨k - 1, by omega⟩
    rw [show i = (stuffL x).length by omega]
    exact tail k (by omega)
  | succ d ih =>
    intro k i hi hk hgi
    obtain ⟨k, rfl⟩ : ∃ m, k = m + 1 := ⟨k - 1, by omega⟩
    rw [drop_at (stuffL x) i (by omega)] at hgi
    have hrec := ih k (i + 1) (by omega) (by omega) hgi.2
    rw [laws_FnStuffed.l0, if_pos (by omega), if_pos (by omega), rd_nat (stuffL x) i (by omega), wsucc (by omega)]
    by_cases h : (stuffL x)[i] = 255
    · obtain ⟨ys, hys⟩ := hgi.1 h
      have hlt : i + 1 < (stuffL x).length := by
        rcases Nat.lt_or_ge (i + 1) (stuffL x).length with h' | h'
        · exact h'
        · rw [List.drop_eq_nil_of_le h'] at hys; cases hys
      have hz : (stuffL x)[i + 1] = 0 := by rw [drop_at (stuffL x) (i + 1) hlt] at hys; exact (List.cons.inj hys).1
      rw [if_pos h, if_neg (by omega), if_pos (by omega), if_pos (by omega), rd_nat (stuffL x) (i + 1) hlt, if_pos hz]
      exact hrec
    · rw [if_neg h]; exact hrec
theorem FnStuffed : laws_FnStuffed.Pure := by
  intro l hm hr hw
  unfold laws_FnStuffed.f
  by_cases hbig : (l.length : Int) > 1048576
  · exact ⟨0, by rw [big_yes hbig]; rfl⟩
  rw [big_no hbig]
  have hl := bytes_of hbig hw
  obtain ⟨s0, e0, c0⟩ := open_ok hl
  obtain ⟨K, hK⟩ : ∃ K, K = 1000 := ⟨_, rfl⟩
  refine ⟨K, ?_⟩
  obtain ⟨x, a1, s1, e1, p1, q1, c1⟩ := drawBytes_ok hl 60 c0 (by omega) (by omega) K (by omega)
  have ed : spec_DrawStuff.f K l = some x := by
    unfold spec_DrawStuff.f
    rw [e0, Option.bind_some]
    show (spec_l01DrawBytes.f K l 0 s0 60).bind _ = _
    rw [e1]
    rfl
  have f1 := specStuff_eq x (by omega) K (by omega)
  have f2 := implStuff_eq x (by omega) K (by omega)
  rw [if_neg (by omega)] at f1 f2
  have hsl := stuffL_len x
  have f3 := sameBytes_refl (stuffL x) (by omega) K (by omega)
  simp only [ed, f1, f2, f3, Option.bind_some, if_true, Bool.false_eq_true, if_false]
  have hg := good_stuff x
  exact stuffed_all hl x (by omega) (stuffL x).length K 0 (by omega) (by omega) hg

end Go.Proofs.Ytbiamhmjcnmjgaa.Pure
