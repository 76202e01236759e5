/- At every list of numbers Inverse answers as the specification, for all inputs that the law's guard lets in. -/
import Derived.Test.YticlmpkbcmanfaaPFnExactInversex5
import Derived.Test.YticlmpkbcmanfaaWSized
-- The printed row names this word without its seat: the same fact under that name.
namespace Go.Proofs.PrintWords
theorem sized_ints {H : Type} {enc : TypeId × Value → H} {P : Program} {W : World} {base : Nat} {spare : Nat → Bool} {held : Bool} {t e : TypeId} {k : IntKind} {a : Option Addr} {len cap : Nat} {d : DataW H} {ps : List MemPlace} {ts : List TypeId} {ds : List (DataW H)} {j : Nat} (hsz : (DataW.weightsEach P ts ds).all (· ≤ reachBytes) = true) (ht : ts[j]? = some t) (hd : ds[j]? = some d) (hu : P.underlying t = some (.slice e)) (he : P.underlying e = some (.int k)) (hc : P.cellsOf e = 1) {B : Nat} (hB : P.bytesOf e = B) (h : DataW.Trod enc P W base spare held t (.slice a len cap) d ps) : len * B ≤ 140737488351232 := Go.Proofs.YticlmpkbcmanfaaW.PrintWords.sized_ints hsz ht hd hu he hc hB h
end Go.Proofs.PrintWords
namespace Go.Proofs.Yticlmpkbcmanfaa.Pure
open Go.RowKit Go.Proofs.Yticlmpkbcmanfaa.PFnExactInverse Go.Proofs.YticlmpkbcmanfaaW.PrintWords Go.Proofs.YticlmpkbcmanfaaW.PrintLast Go.Proofs.YticlmpkbcmanfaaW.PrintMore
set_option linter.unusedVariables false
set_option linter.unusedSimpArgs false
set_option maxRecDepth 4000

theorem w64 {x : Int} (h1 : -9223372036854775808 ≤ x) (h2 : x ≤ 9223372036854775807) : wrap64 x = x := by unfold wrap64; omega
theorem wsucc {i : Nat} (h : i ≤ 4611686018427387904) : wrap64 ((i : Int) + 1) = ((i + 1 : Nat) : Int) := by unfold wrap64; omega
theorem rd_nat (l : List Int) (i : Nat) (h : i < l.length) : rd l (i : Int) = l[i] := by simp [rd, List.getD_eq_getElem?_getD, h]
theorem drop_at {α : Type} (l : List α) (i : Nat) (h : i < l.length) : l.drop i = l[i] :: l.drop (i + 1) := List.drop_eq_getElem_cons h
theorem wf64 {x : Int} (h : (Lit.int .i64 x).wf = true) : -9223372036854775808 ≤ x ∧ x ≤ 9223372036854775807 := by
  simp [Lit.wf, IntKind.min, IntKind.max, IntKind.bits, IntKind.signed] at h; omega
theorem wfu8 {x : Int} (h : (Lit.int .u8 x).wf = true) : 0 ≤ x ∧ x ≤ 255 := by
  simp [Lit.wf, IntKind.min, IntKind.max, IntKind.bits, IntKind.signed] at h; omega

def inR (lo hi : Int) (l : List Int) : Bool := l.all fun x => decide (lo ≤ x ∧ x ≤ hi)
theorem inR_nil (lo hi : Int) : inR lo hi [] = true := rfl
theorem inR_cons (lo hi x : Int) (l : List Int) : inR lo hi (x :: l) = (decide (lo ≤ x ∧ x ≤ hi) && inR lo hi l) := rfl
theorem inR_at {lo hi : Int} {l : List Int} (h : inR lo hi l = true) (i : Nat) (hi' : i < l.length) : lo ≤ l[i] ∧ l[i] ≤ hi := by
  unfold inR at h; rw [List.all_eq_true] at h; simpa using h l[i] (List.getElem_mem hi')

theorem rd_getD (l : List Int) (i : Nat) : rd l (i : Int) = l.getD i 0 := by simp [rd]
theorem push_loop {α β : Type} (F : Nat → List α → Int → Option β) (g : Nat → α) (n : Nat) (res : β)
    (hstep : ∀ (k i : Nat) (a : List α), i < n → a.length = i → F (k + 1) a (i : Int) = F k (a ++ [g i]) ((i + 1 : Nat) : Int))
    (hend : ∀ k : Nat, F (k + 1) ((List.range n).map g) (n : Int) = some res) : ∀ k : Nat, n < k → F k [] 0 = some res := by
  have main : ∀ (d k i : Nat), i + d = n → d < k → F k ((List.range i).map g) (i : Int) = some res := by
    intro d
    induction d with
    | zero =>
      intro k i h1 hk
      obtain ⟨k, rfl⟩ : ∃ m, k = m + 1 := ⟨k - 1, by omega⟩
      obtain rfl : i = n := by omega
      exact hend k
    | succ d ih =>
      intro k i h1 hk
      obtain ⟨k, rfl⟩ : ∃ m, k = m + 1 := ⟨k - 1, by omega⟩
      rw [hstep k i _ (by omega) (by simp)]
      have e : (List.range (i + 1)).map g = (List.range i).map g ++ [g i] := by rw [List.range_succ, List.map_append]; rfl
      rw [← e]
      exact ih k (i + 1) (by omega) (by omega)
  intro k hk
  exact main n k 0 (by omega) hk
theorem state_loop {σ β : Type} (F : Nat → σ → Int → Option β) (s : Nat → σ) (n : Nat) (res : β)
    (hstep : ∀ (k i : Nat), i < n → F (k + 1) (s i) (i : Int) = F k (s (i + 1)) ((i + 1 : Nat) : Int))
    (hend : ∀ k : Nat, F (k + 1) (s n) (n : Int) = some res) : ∀ k : Nat, n < k → F k (s 0) 0 = some res := by
  have main : ∀ (d k i : Nat), i + d = n → d < k → F k (s i) (i : Int) = some res := by
    intro d
    induction d with
    | zero =>
      intro k i h1 hk
      obtain ⟨k, rfl⟩ : ∃ m, k = m + 1 := ⟨k - 1, by omega⟩
      obtain rfl : i = n := by omega
      exact hend k
    | succ d ih =>
      intro k i h1 hk
      obtain ⟨k, rfl⟩ : ∃ m, k = m + 1 := ⟨k - 1, by omega⟩
      rw [hstep k i (by omega)]
      exact ih k (i + 1) (by omega) (by omega)
  intro k hk
  exact main n k 0 (by omega) hk
theorem inR_getD {lo hi : Int} {l : List Int} (h : inR lo hi l = true) (i : Nat) (h' : i < l.length) : lo ≤ l.getD i 0 ∧ l.getD i 0 ≤ hi := by
  have := inR_at h i h'
  simpa [List.getD_eq_getElem?_getD, h'] using this

def To {α : Type} (f g : Nat → α) : Prop := ∃ K : Nat, ∀ k : Nat, f (k + K) = g k
theorem To.refl {α : Type} (f : Nat → α) : To f f := ⟨0, fun _ => rfl⟩
theorem To.trans {α : Type} {f g h : Nat → α} (a : To f g) (b : To g h) : To f h := by
  obtain ⟨K, a⟩ := a
  obtain ⟨L, b⟩ := b
  exact ⟨L + K, fun k => by rw [← Nat.add_assoc, a, b]⟩
theorem To.step {α : Type} {f g : Nat → α} (a : ∀ k : Nat, f (k + 1) = g k) : To f g := ⟨1, a⟩
theorem To.eq {α : Type} {f g : Nat → α} (a : ∀ k : Nat, f k = g k) : To f g := ⟨0, a⟩
theorem To.ends {α : Type} {f : Nat → α} {r : α} (a : To f fun _ => r) : ∃ K : Nat, ∀ k : Nat, K ≤ k → f k = r := by
  obtain ⟨K, a⟩ := a
  exact ⟨K, fun k hk => by obtain ⟨j, rfl⟩ : ∃ j, k = j + K := ⟨k - K, by omega⟩; exact a j⟩

theorem tdw {x y : Int} (h0 : 0 ≤ x) (h1 : x ≤ 4611686018427387904) (hy : 0 < y) : wrap64 (Int.tdiv x y) = x / y := by
  rw [Int.tdiv_eq_ediv_of_nonneg h0]
  have a := Int.ediv_nonneg h0 (Int.le_of_lt hy)
  have b := Int.ediv_le_self y h0
  exact w64 (by omega) (by omega)
theorem div_bd {x y : Int} (h0 : 0 ≤ x) (hy : 0 < y) : 0 ≤ x / y ∧ x / y ≤ x := ⟨Int.ediv_nonneg h0 (Int.le_of_lt hy), Int.ediv_le_self y h0⟩

theorem ww (x y : Int) (h : x % 18446744073709551616 = y % 18446744073709551616) : wrap64 x = wrap64 y := by unfold wrap64; omega
theorem wmod (x : Int) : wrap64 x % 18446744073709551616 = x % 18446744073709551616 := by unfold wrap64; omega
theorem w_add_l (a b : Int) : wrap64 (wrap64 a + b) = wrap64 (a + b) := by unfold wrap64; omega
theorem w_add_r (a b : Int) : wrap64 (a + wrap64 b) = wrap64 (a + b) := by unfold wrap64; omega
theorem w_mul_l (a b : Int) : wrap64 (wrap64 a * b) = wrap64 (a * b) := ww _ _ (by rw [Int.mul_emod, wmod, ← Int.mul_emod])
theorem w_mul_r (a b : Int) : wrap64 (a * wrap64 b) = wrap64 (a * b) := ww _ _ (by rw [Int.mul_emod, wmod, ← Int.mul_emod])
theorem w_zero : wrap64 0 = 0 := by decide +kernel
/-- The sum of the first n values. -/
def sm (n : Nat) (f : Nat → Int) : Int := match n with
  | 0 => 0
  | n + 1 => sm n f + f n
theorem sm_zero (f : Nat → Int) : sm 0 f = 0 := rfl
theorem sm_succ (n : Nat) (f : Nat → Int) : sm (n + 1) f = sm n f + f n := rfl
theorem sm_congr (n : Nat) (f g : Nat → Int) (h : ∀ i, i < n → f i = g i) : sm n f = sm n g := by
  induction n with
  | zero => rfl
  | succ n ih => rw [sm_succ, sm_succ, ih (fun i hi => h i (by omega)), h n (by omega)]
theorem sm_add (n : Nat) (f g : Nat → Int) : sm n (fun i => f i + g i) = sm n f + sm n g := by
  induction n with
  | zero => rfl
  | succ n ih => rw [sm_succ, sm_succ, sm_succ, ih]; omega
theorem sm_mul (n : Nat) (c : Int) (f : Nat → Int) : c * sm n f = sm n (fun i => c * f i) := by
  induction n with
  | zero => rw [sm_zero, sm_zero, Int.mul_zero]
  | succ n ih => rw [sm_succ, sm_succ, Int.mul_add, ih]
theorem sm_const0 (n : Nat) : sm n (fun _ => 0) = 0 := by
  induction n with
  | zero => rfl
  | succ n ih => rw [sm_succ, ih]; rfl
theorem sm_swap (n m : Nat) (f : Nat → Nat → Int) : sm n (fun i => sm m (fun j => f i j)) = sm m (fun j => sm n (fun i => f i j)) := by
  induction n with
  | zero => rw [sm_zero]; symm; exact sm_const0 m
  | succ n ih =>
    rw [sm_succ, ih, ← sm_add]; rfl
theorem To.loop {α : Type} (F : Nat → Nat → α) (n : Nat) (G : Nat → α) (hs : ∀ i, i < n → To (F i) (F (i + 1))) (he : To (F n) G) : To (F 0) G := by
  have key : ∀ d i : Nat, i + d = n → To (F i) G := by
    intro d
    induction d with
    | zero =>
      intro i h
      have e : i = n := by omega
      subst e; exact he
    | succ d ih => intro i h; exact (hs i (by omega)).trans (ih (i + 1) (by omega))
  exact key n 0 (by omega)
theorem ix8 (i j : Nat) (hi : i < 8) (hj : j < 8) : wrap64 (wrap64 (8 * (i : Int)) + (j : Int)) = ((8 * i + j : Nat) : Int) := by unfold wrap64; omega
def bas : List Int := [1448, 1448, 1448, 1448, 1448, 1448, 1448, 1448, 2009, 1703, 1138, 400, -400, -1138, -1703, -2009, 1892, 784, -784, -1892, -1892, -784, 784, 1892, 1703, -400, -2009, -1138, 1138, 2009, 400, -1703, 1448, -1448, -1448, 1448, 1448, -1448, -1448, 1448, 1138, -2009, 400, 1703, -1703, -400, 2009, -1138, 784, -1892, 1892, -784, -784, 1892, -1892, 784, 400, -1138, 1703, -2009, 2009, -1703, 1138, -400]
theorem bas_len : bas.length = 64 := rfl
theorem specBasis_eq (k : Nat) (hk : 100 ≤ k) : spec_Basis.f k = some bas :=
  at_rounds (g := fun k => spec_Basis.f k) (fun k => spec_Basis.mono k) hk (by decide +kernel)
theorem implBasis_eq (k : Nat) (hk : 100 ≤ k) : impl_Basis.f k = some bas :=
  at_rounds (g := fun k => impl_Basis.f k) (fun k => impl_Basis.mono k) hk (by decide +kernel)
theorem round_same2 (a b : Int) : spec_l05Round.f a b = impl_rounded.f a b := by
  unfold spec_l05Round.f impl_rounded.f spec_l05Floor.f impl_below.f
  by_cases h : wrap64 (wrap64 (2 * a) + b) < 0
  · rw [if_neg (by omega), if_pos h]
  · rw [if_pos (by omega), if_neg h]
theorem implRound_some (a : Int) : ∃ r, impl_rounded.f a 16777216 = some r := by
  unfold impl_rounded.f impl_below.f
  rw [show wrap64 (2 * 16777216) = 33554432 by decide +kernel]
  split
  · rw [if_neg (by omega)]; exact ⟨_, rfl⟩
  · rw [if_neg (by omega)]; exact ⟨_, rfl⟩
def rnd (a : Int) : Int := (impl_rounded.f a 16777216).getD 0
theorem implRound_eq (a : Int) : impl_rounded.f a 16777216 = some (rnd a) := by
  obtain ⟨r, h⟩ := implRound_some a
  unfold rnd; rw [h]; rfl
theorem specRound_eq (a : Int) : spec_l05Round.f a 16777216 = some (rnd a) := by rw [round_same2, implRound_eq]
theorem rd_set (h : List Int) (p : Nat) (a : Int) (hp : p < h.length) : rd (h.set p a) (p : Int) = a := by
  rw [rd_getD, List.getD_eq_getElem?_getD, List.getElem?_set_self hp]; rfl
/-- A row of 64 whose first n are told by g. -/
def fil (g : Nat → Int) (n : Nat) : List Int := (List.range 64).map fun q => if q < n then g q else 0
theorem fil_len (g : Nat → Int) (n : Nat) : (fil g n).length = 64 := by simp [fil]
theorem fil_getD (g : Nat → Int) (n q : Nat) (hq : q < 64) : (fil g n).getD q 0 = if q < n then g q else 0 := by
  rw [List.getD_eq_getElem?_getD]; unfold fil; rw [List.getElem?_map, List.getElem?_range hq]; rfl
theorem fil_set (g : Nat → Int) (n : Nat) (hn : n < 64) : (fil g n).set n (g n) = fil g (n + 1) := by
  apply List.ext_getElem
  · rw [List.length_set, fil_len, fil_len]
  · intro i h1 h2
    rw [fil_len] at h2
    rw [List.getElem_set]
    simp only [fil, List.getElem_map, List.getElem_range]
    by_cases e : n = i
    · subst e; rw [if_pos rfl, if_pos (by omega)]
    · rw [if_neg e]
      by_cases h : i < n
      · rw [if_pos h, if_pos (by omega)]
      · rw [if_neg h, if_neg (by omega)]
theorem fil_zero (g : Nat → Int) : fil g 0 = List.replicate 64 0 := by
  apply List.ext_getElem
  · rw [fil_len, List.length_replicate]
  · intro i h1 h2; simp only [fil, List.getElem_map, List.getElem_range, List.getElem_replicate]; rw [if_neg (by omega)]
theorem fil_all (g : Nat → Int) : fil g 64 = (List.range 64).map g := by
  apply List.ext_getElem
  · simp [fil]
  · intro i h1 h2; rw [fil_len] at h1; simp [fil, h1]

def clp (a : Int) : Int := mn 2047 (mx (-2048) a)
theorem clp_eq (a : Int) : spec_l05Clip.f a (-2048) 2047 = some (clp a) := by
  unfold spec_l05Clip.f clp mn mx
  (repeat' split) <;> first | rfl | (congr 1; omega) | omega

def ipW (l w : List Int) (u v y x : Nat) : Int := l.getD (8 * y + x) 0 * w.getD (8 * y + u) 0 * w.getD (8 * x + v) 0
def ipS (l w : List Int) (u v : Nat) : Int := sm 8 fun y => sm 8 fun x => ipW l w u v y x
def ipO (l w : List Int) (u v : Nat) : Int := clp (rnd (wrap64 (ipS l w u v)))
def ipR (l w : List Int) (q : Nat) : Int := ipO l w (q / 8) (q % 8)
theorem ip3 (l w a : List Int) (hl : l.length = 64) (hw : w.length = 64) (u v y : Nat) (hu : u < 8) (hv : v < 8) (hy : y < 8) (s : Int) :
    To (fun k => spec_Inverse.l3 k l a w (u : Int) (v : Int) (wrap64 s) (y : Int) 0) (fun k => spec_Inverse.l2 k l a w (u : Int) (v : Int) (wrap64 (s + sm 8 fun x => ipW l w u v y x)) ((y + 1 : Nat) : Int)) := by
  have key := To.loop (fun n k => spec_Inverse.l3 k l a w (u : Int) (v : Int) (wrap64 (s + sm n fun x => ipW l w u v y x)) (y : Int) (n : Int)) 8 (fun k => spec_Inverse.l2 k l a w (u : Int) (v : Int) (wrap64 (s + sm 8 fun x => ipW l w u v y x)) ((y + 1 : Nat) : Int)) ?_ ?_
  · rw [sm_zero, Int.add_zero] at key; exact key
  · intro n hn
    refine To.step fun k => ?_
    rw [spec_Inverse.l3, if_pos (by omega), ix8 y n hy hn, ix8 y u hy hu, ix8 n v hn hv, if_pos (by omega), if_pos (by omega), if_pos (by omega), if_pos (by omega), if_pos (by omega), if_pos (by omega), rd_getD, rd_getD, rd_getD, w_mul_l, w_add_l, w_add_r, wsucc (by omega), sm_succ, Int.add_assoc]; rfl
  · refine To.step fun k => ?_
    rw [spec_Inverse.l3, if_neg (by omega), wsucc (by omega)]
theorem ip2 (l w a : List Int) (hl : l.length = 64) (hw : w.length = 64) (ha : a.length ≤ 64) (u v : Nat) (hu : u < 8) (hv : v < 8) :
    To (fun k => spec_Inverse.l2 k l a w (u : Int) (v : Int) 0 0) (fun k => spec_Inverse.l1 k l (a ++ [ipO l w u v]) w (u : Int) ((v + 1 : Nat) : Int)) := by
  have key := To.loop (fun n k => spec_Inverse.l2 k l a w (u : Int) (v : Int) (wrap64 (sm n fun y => sm 8 fun x => ipW l w u v y x)) (n : Int)) 8 (fun k => spec_Inverse.l1 k l (a ++ [ipO l w u v]) w (u : Int) ((v + 1 : Nat) : Int)) ?_ ?_
  · rw [sm_zero, w_zero] at key; exact key
  · intro n hn
    refine To.trans (To.step (g := fun k => spec_Inverse.l3 k l a w (u : Int) (v : Int) (wrap64 (sm n fun y => sm 8 fun x => ipW l w u v y x)) (n : Int) 0) fun k => ?_) (ip3 l w a hl hw u v n hu hv hn _)
    rw [spec_Inverse.l2, if_pos (by omega)]
  · refine To.step fun k => ?_
    rw [spec_Inverse.l2, if_neg (by omega), specRound_eq, Option.bind_some, clp_eq, Option.bind_some, if_pos (by omega), wsucc (by omega)]; rfl
theorem ip1 (l w : List Int) (hl : l.length = 64) (hw : w.length = 64) (u : Nat) (hu : u < 8) :
    To (fun k => spec_Inverse.l1 k l ((List.range (8 * u)).map (ipR l w)) w (u : Int) 0) (fun k => spec_Inverse.l0 k l ((List.range (8 * (u + 1))).map (ipR l w)) w ((u + 1 : Nat) : Int)) := by
  refine To.loop (fun v k => spec_Inverse.l1 k l ((List.range (8 * u + v)).map (ipR l w)) w (u : Int) (v : Int)) 8 _ ?_ ?_
  · intro v hv
    refine To.trans (To.step (g := fun k => spec_Inverse.l2 k l ((List.range (8 * u + v)).map (ipR l w)) w (u : Int) (v : Int) 0 0) fun k => ?_) ?_
    · rw [spec_Inverse.l1, if_pos (by omega)]
    · have h := ip2 l w ((List.range (8 * u + v)).map (ipR l w)) hl hw (by simp; omega) u v hu hv
      have e : ipO l w u v = ipR l w (8 * u + v) := by unfold ipR; rw [show (8 * u + v) / 8 = u by omega, show (8 * u + v) % 8 = v by omega]
      have e2 : (List.range (8 * u + v)).map (ipR l w) ++ [ipR l w (8 * u + v)] = (List.range (8 * u + (v + 1))).map (ipR l w) := by rw [← Nat.add_assoc, List.range_succ, List.map_append]; rfl
      rw [e, e2] at h
      exact h
  · refine To.step fun k => ?_
    rw [spec_Inverse.l1, if_neg (by omega), wsucc (by omega)]; rfl
theorem ip0 (l w : List Int) (hl : l.length = 64) (hw : w.length = 64) : To (fun k => spec_Inverse.l0 k l [] w 0) (fun _ => some ((List.range 64).map (ipR l w))) := by
  refine To.loop (fun u k => spec_Inverse.l0 k l ((List.range (8 * u)).map (ipR l w)) w (u : Int)) 8 _ ?_ ?_
  · intro u hu
    refine To.trans (To.step (g := fun k => spec_Inverse.l1 k l ((List.range (8 * u)).map (ipR l w)) w (u : Int) 0) fun k => ?_) (ip1 l w hl hw u hu)
    rw [spec_Inverse.l0, if_pos (by omega)]
  · refine To.step fun k => ?_
    rw [spec_Inverse.l0, if_neg (by omega)]

def itT (l : List Int) (c : Nat → Nat → Int) (i x : Nat) : Int := sm 8 fun k => c i k * l.getD (8 * k + x) 0
def itH (l : List Int) (c : Nat → Nat → Int) (q : Nat) : Int := wrap64 (itT l c (q / 8) (q % 8))
def itO (l : List Int) (c : Nat → Nat → Int) (i j : Nat) : Int := rnd (wrap64 (sm 8 fun k => c j k * itT l c i k))
def itR (l : List Int) (c : Nat → Nat → Int) (q : Nat) : Int := itO l c (q / 8) (q % 8)
theorem it2 (l w h o : List Int) (c : Nat → Nat → Int) (hl : l.length = 64) (hc : ∀ i k : Nat, i < 8 → k < 8 → impl_Inverse_c1.f (i : Int) (k : Int) w = some (c i k)) (i x : Nat) (hi : i < 8) (hx : x < 8) (hh : h.length = 64) (h0 : h.getD (8 * i + x) 0 = 0) :
    To (fun k => impl_turned2.l2 k l w h o (i : Int) (x : Int) (i : Int) (x : Int) 0) (fun k => impl_turned2.l1 k l w (h.set (8 * i + x) (wrap64 (itT l c i x))) o (i : Int) (i : Int) ((x + 1 : Nat) : Int)) := by
  have hs : h.set (8 * i + x) (wrap64 (sm 0 fun k => c i k * l.getD (8 * k + x) 0)) = h := by
    apply List.ext_getElem
    · rw [List.length_set]
    · intro q h1 h2
      rw [List.getElem_set]
      split
      · rename_i e; subst e
        rw [sm_zero, w_zero, ← h0, List.getD_eq_getElem?_getD, List.getElem?_eq_getElem h2]; rfl
      · rfl
  have key := To.loop (fun n k => impl_turned2.l2 k l w (h.set (8 * i + x) (wrap64 (sm n fun k => c i k * l.getD (8 * k + x) 0))) o (i : Int) (x : Int) (i : Int) (x : Int) (n : Int)) 8 (fun k => impl_turned2.l1 k l w (h.set (8 * i + x) (wrap64 (itT l c i x))) o (i : Int) (i : Int) ((x + 1 : Nat) : Int)) ?_ ?_
  · rw [hs] at key; exact key
  · intro n hn
    refine To.step fun k => ?_
    rw [impl_turned2.l2, if_pos (by omega), ix8 i x hi hx, if_pos (by omega), if_pos (by rw [List.length_set]; omega), hc i n hi hn, Option.bind_some, ix8 n x hn hx, if_pos (by omega), if_pos (by omega), rd_getD l, rd_set _ _ _ (by omega), w_add_l, w_add_r, wsucc (by omega), Int.toNat_natCast, List.set_set, sm_succ]
  · refine To.step fun k => ?_
    rw [impl_turned2.l2, if_neg (by omega), wsucc (by omega)]; rfl
theorem it1 (l w o : List Int) (c : Nat → Nat → Int) (hl : l.length = 64) (hc : ∀ i k : Nat, i < 8 → k < 8 → impl_Inverse_c1.f (i : Int) (k : Int) w = some (c i k)) (i : Nat) (hi : i < 8) :
    To (fun k => impl_turned2.l1 k l w (fil (itH l c) (8 * i)) o (i : Int) (i : Int) 0) (fun k => impl_turned2.l0 k l w (fil (itH l c) (8 * (i + 1))) o ((i + 1 : Nat) : Int)) := by
  refine To.loop (fun x k => impl_turned2.l1 k l w (fil (itH l c) (8 * i + x)) o (i : Int) (i : Int) (x : Int)) 8 _ ?_ ?_
  · intro x hx
    refine To.trans (To.step (g := fun k => impl_turned2.l2 k l w (fil (itH l c) (8 * i + x)) o (i : Int) (x : Int) (i : Int) (x : Int) 0) fun k => ?_) ?_
    · rw [impl_turned2.l1, if_pos (by omega)]
    · have h := it2 l w (fil (itH l c) (8 * i + x)) o c hl hc i x hi hx (fil_len _ _) (by rw [fil_getD _ _ _ (by omega), if_neg (by omega)])
      have e : wrap64 (itT l c i x) = itH l c (8 * i + x) := by unfold itH; rw [show (8 * i + x) / 8 = i by omega, show (8 * i + x) % 8 = x by omega]
      rw [e, fil_set _ _ (by omega)] at h
      exact h
  · refine To.step fun k => ?_
    rw [impl_turned2.l1, if_neg (by omega), wsucc (by omega)]; rfl
theorem it5 (l w o : List Int) (c : Nat → Nat → Int) (hl : l.length = 64) (hc : ∀ i k : Nat, i < 8 → k < 8 → impl_Inverse_c1.f (i : Int) (k : Int) w = some (c i k)) (i j : Nat) (hi : i < 8) (hj : j < 8) (ho : o.length = 64) :
    To (fun k => impl_turned2.l5 k w (fil (itH l c) 64) o (i : Int) (j : Int) 0 (i : Int) (j : Int) 0) (fun k => impl_turned2.l4 k w (fil (itH l c) 64) (o.set (8 * i + j) (itO l c i j)) (i : Int) (i : Int) ((j + 1 : Nat) : Int)) := by
  have key := To.loop (fun n k => impl_turned2.l5 k w (fil (itH l c) 64) o (i : Int) (j : Int) (wrap64 (sm n fun k => c j k * itT l c i k)) (i : Int) (j : Int) (n : Int)) 8 (fun k => impl_turned2.l4 k w (fil (itH l c) 64) (o.set (8 * i + j) (itO l c i j)) (i : Int) (i : Int) ((j + 1 : Nat) : Int)) ?_ ?_
  · rw [sm_zero, w_zero] at key; exact key
  · intro n hn
    refine To.step fun k => ?_
    have e : (fil (itH l c) 64).getD (8 * i + n) 0 = wrap64 (itT l c i n) := by
      rw [fil_getD _ _ _ (by omega), if_pos (by omega)]; unfold itH; rw [show (8 * i + n) / 8 = i by omega, show (8 * i + n) % 8 = n by omega]
    have f1 := fil_len (itH l c) 64
    rw [impl_turned2.l5, if_pos (by omega), hc j n hj hn, Option.bind_some, ix8 i n hi hn, if_pos (by omega), if_pos (by omega), rd_getD, e, w_add_l, w_mul_r, w_add_r, wsucc (by omega), sm_succ]
  · refine To.step fun k => ?_
    rw [impl_turned2.l5, if_neg (by omega), implRound_eq, Option.bind_some, ix8 i j hi hj, if_pos (by omega), if_pos (by omega), wsucc (by omega), Int.toNat_natCast]; rfl
theorem it4 (l w : List Int) (c : Nat → Nat → Int) (hl : l.length = 64) (hc : ∀ i k : Nat, i < 8 → k < 8 → impl_Inverse_c1.f (i : Int) (k : Int) w = some (c i k)) (i : Nat) (hi : i < 8) :
    To (fun k => impl_turned2.l4 k w (fil (itH l c) 64) (fil (itR l c) (8 * i)) (i : Int) (i : Int) 0) (fun k => impl_turned2.l3 k w (fil (itH l c) 64) (fil (itR l c) (8 * (i + 1))) ((i + 1 : Nat) : Int)) := by
  refine To.loop (fun j k => impl_turned2.l4 k w (fil (itH l c) 64) (fil (itR l c) (8 * i + j)) (i : Int) (i : Int) (j : Int)) 8 _ ?_ ?_
  · intro j hj
    refine To.trans (To.step (g := fun k => impl_turned2.l5 k w (fil (itH l c) 64) (fil (itR l c) (8 * i + j)) (i : Int) (j : Int) 0 (i : Int) (j : Int) 0) fun k => ?_) ?_
    · rw [impl_turned2.l4, if_pos (by omega)]
    · have h := it5 l w (fil (itR l c) (8 * i + j)) c hl hc i j hi hj (fil_len _ _)
      have e : itO l c i j = itR l c (8 * i + j) := by unfold itR; rw [show (8 * i + j) / 8 = i by omega, show (8 * i + j) % 8 = j by omega]
      rw [e, fil_set _ _ (by omega)] at h
      exact h
  · refine To.step fun k => ?_
    rw [impl_turned2.l4, if_neg (by omega), wsucc (by omega)]; rfl
theorem iturned_to (l w : List Int) (c : Nat → Nat → Int) (hl : l.length = 64) (hc : ∀ i k : Nat, i < 8 → k < 8 → impl_Inverse_c1.f (i : Int) (k : Int) w = some (c i k)) :
    To (fun k => impl_turned2.f k l w) (fun _ => some ((List.range 64).map (itR l c))) := by
  have a : To (fun k => impl_turned2.l0 k l w (fil (itH l c) (8 * 0)) (List.replicate 64 0) ((0 : Nat) : Int)) (fun k => impl_turned2.l3 k w (fil (itH l c) 64) (List.replicate 64 0) 0) := by
    refine To.loop (fun i k => impl_turned2.l0 k l w (fil (itH l c) (8 * i)) (List.replicate 64 0) (i : Int)) 8 _ ?_ ?_
    · intro i hi
      refine To.trans (To.step (g := fun k => impl_turned2.l1 k l w (fil (itH l c) (8 * i)) (List.replicate 64 0) (i : Int) (i : Int) 0) fun k => ?_) (it1 l w _ c hl hc i hi)
      rw [impl_turned2.l0, if_pos (by omega)]
    · refine To.step fun k => ?_
      rw [impl_turned2.l0, if_neg (by omega)]
  have b : To (fun k => impl_turned2.l3 k w (fil (itH l c) 64) (fil (itR l c) (8 * 0)) ((0 : Nat) : Int)) (fun _ => some (fil (itR l c) 64)) := by
    refine To.loop (fun i k => impl_turned2.l3 k w (fil (itH l c) 64) (fil (itR l c) (8 * i)) (i : Int)) 8 _ ?_ ?_
    · intro i hi
      refine To.trans (To.step (g := fun k => impl_turned2.l4 k w (fil (itH l c) 64) (fil (itR l c) (8 * i)) (i : Int) (i : Int) 0) fun k => ?_) (it4 l w c hl hc i hi)
      rw [impl_turned2.l3, if_pos (by omega)]
    · refine To.step fun k => ?_
      rw [impl_turned2.l3, if_neg (by omega)]
  rw [Nat.mul_zero, fil_zero] at a b
  rw [fil_all] at b
  refine To.trans (To.eq (g := fun k => impl_turned2.l0 k l w (List.replicate 64 0) (List.replicate 64 0) ((0 : Nat) : Int)) fun k => ?_) (a.trans b)
  unfold impl_turned2.f
  rw [if_pos (by omega)]; rfl

theorem between_eq (a lo hi : Int) : spec_l01Between.f a lo hi = some (decide (lo ≤ a ∧ a ≤ hi)) := by
  unfold spec_l01Between.f
  by_cases h : a ≥ lo
  · rw [if_pos h]; congr 1; simp; omega
  · rw [if_neg h]; congr 1; simp; omega

theorem nums5_loop (l : List Int) (lo hi : Int) (hl : l.length = 64) : ∀ (d k i : Nat), i + d = 64 → d < k → spec_l05Nums.l0 k l lo hi (i : Int) = some (inR lo hi (l.drop i)) := by
  intro d
  induction d with
  | zero =>
    intro k i h1 hk
    obtain ⟨k, rfl⟩ : ∃ m, k = m + 1 := ⟨k - 1, by omega⟩
    rw [spec_l05Nums.l0, if_neg (by omega), List.drop_eq_nil_of_le (by omega), inR_nil]
  | succ d ih =>
    intro k i h1 hk
    obtain ⟨k, rfl⟩ : ∃ m, k = m + 1 := ⟨k - 1, by omega⟩
    rw [spec_l05Nums.l0, if_pos (by omega), if_pos (by omega), if_pos (by omega), between_eq, rd_nat l i (by omega), wsucc (by omega), ih k (i + 1) (by omega) (by omega), drop_at l i (by omega), inR_cons]
    simp only [Option.bind_some]
    by_cases h : lo ≤ l[i] ∧ l[i] ≤ hi <;> simp [h]
theorem nums5_eq (l : List Int) (lo hi : Int) (k : Nat) (hk : 64 < k) : spec_l05Nums.f k l lo hi = some (decide (l.length = 64) && inR lo hi l) := by
  unfold spec_l05Nums.f
  by_cases h : l.length = 64
  · have e : spec_l05Nums.l0 k l lo hi 0 = some (inR lo hi (l.drop 0)) := nums5_loop l lo hi h 64 k 0 (by omega) hk
    rw [if_pos (by omega), e]; simp [h]
  · rw [if_neg (by omega)]; simp [h]

theorem within_eq (a lo hi : Int) : impl_within.f a lo hi = some (decide (lo ≤ a ∧ a ≤ hi)) := by
  unfold impl_within.f
  by_cases h : a ≥ lo
  · rw [if_pos h]; congr 1; simp; omega
  · rw [if_neg h]; congr 1; simp; omega

theorem allWithin_loop (l : List Int) (lo hi : Int) (hl : l.length ≤ 4611686018427387904) : ∀ (d k i : Nat), i + d = l.length → d < k → impl_allWithin.l0 k lo hi l (l.length : Int) (i : Int) = some (inR lo hi (l.drop i)) := by
  intro d
  induction d with
  | zero =>
    intro k i h1 hk
    obtain ⟨k, rfl⟩ : ∃ m, k = m + 1 := ⟨k - 1, by omega⟩
    rw [impl_allWithin.l0, if_neg (by omega), List.drop_eq_nil_of_le (by omega), inR_nil]
  | succ d ih =>
    intro k i h1 hk
    obtain ⟨k, rfl⟩ : ∃ m, k = m + 1 := ⟨k - 1, by omega⟩
    rw [impl_allWithin.l0, if_pos (by omega), if_pos (by omega), if_pos (by omega), within_eq, rd_nat l i (by omega), wsucc (by omega), ih k (i + 1) (by omega) (by omega), drop_at l i (by omega), inR_cons]
    simp only [Option.bind_some]
    by_cases h : lo ≤ l[i] ∧ l[i] ≤ hi <;> simp [h]
theorem allWithin_eq (l : List Int) (lo hi : Int) (hl : l.length ≤ 4611686018427387904) (k : Nat) (hk : l.length < k) : impl_allWithin.f k l lo hi = some (inR lo hi l) := by
  unfold impl_allWithin.f
  exact allWithin_loop l lo hi hl l.length k 0 (by omega) hk

def okL (lo hi : Int) (l : List Int) : Bool := decide (l.length = 64) && inR lo hi l
theorem okL_iff {lo hi : Int} {l : List Int} : okL lo hi l = true ↔ l.length = 64 ∧ inR lo hi l = true := by simp [okL]

theorem implBlockOk_eq (l : List Int) (k : Nat) (hk : 64 < k) : impl_BlockOk.f k l = some (okL (-32767) 32767 l) := by
  unfold impl_BlockOk.f okL
  by_cases h : l.length = 64
  · rw [if_pos (by omega), allWithin_eq l _ _ (by omega) k (by omega)]; simp [h]
  · rw [if_neg (by omega)]; simp [h]

theorem specBlockOk_eq (l : List Int) (k : Nat) (hk : 64 < k) : spec_BlockOk.f k l = some (okL (-32767) 32767 l) := by
  unfold spec_BlockOk.f; rw [nums5_eq l _ _ k hk]; rfl

def cI (i k : Nat) : Int := bas.getD (8 * k + i) 0
theorem cI_eq (i k : Nat) (hi : i < 8) (hk : k < 8) : impl_Inverse_c1.f (i : Int) (k : Int) bas = some (cI i k) := by
  have h := bas_len
  unfold impl_Inverse_c1.f
  rw [ix8 k i hk hi, if_pos (by omega), if_pos (by omega), rd_getD]; rfl
theorem inv_same (l : List Int) (u v : Nat) : clp (itO l cI u v) = ipO l bas u v := by
  unfold itO ipO ipS
  congr 3
  rw [sm_swap]
  refine sm_congr _ _ _ fun k _ => ?_
  unfold itT
  rw [sm_mul]
  refine sm_congr _ _ _ fun y _ => ?_
  unfold ipW cI
  rw [Int.mul_comm (bas.getD (8 * y + u) 0), Int.mul_comm]
def invR (l : List Int) : List Int := if okL (-32767) 32767 l then (List.range 64).map (ipR l bas) else []
theorem invR_len (l : List Int) : (invR l).length ≤ 64 := by unfold invR; split <;> simp
theorem specInv_ev (l : List Int) : ∃ K : Nat, ∀ k : Nat, K ≤ k → spec_Inverse.f k l = some (invR l) := by
  by_cases h : okL (-32767) 32767 l = true
  · obtain ⟨K, hK⟩ := (ip0 l bas (okL_iff.1 h).1 bas_len).ends
    refine ⟨K + 100, fun k hk => ?_⟩
    unfold spec_Inverse.f invR
    rw [Option.bind_some, specBlockOk_eq l k (by omega), Option.bind_some, if_pos h, specBasis_eq k (by omega), Option.bind_some, hK k (by omega), if_pos h]
  · refine ⟨100, fun k hk => ?_⟩
    unfold spec_Inverse.f invR
    rw [Option.bind_some, specBlockOk_eq l k (by omega), Option.bind_some, if_neg h, if_neg h]
/-- The last loop: each place is cut to the bounds. -/
def clipTo (l : List Int) (n : Nat) : List Int := (l.take n).map clp ++ l.drop n
theorem clipTo_len (l : List Int) (n : Nat) (hn : n ≤ l.length) : (clipTo l n).length = l.length := by simp [clipTo]; omega
theorem clipTo_step (l : List Int) (n : Nat) (hn : n < l.length) : (clipTo l n).set n (clp ((clipTo l n).getD n 0)) = clipTo l (n + 1) := by
  have e1 : ((l.take n).map clp).length = n := by simp; omega
  have e2 : (clipTo l n).getD n 0 = l[n] := by
    unfold clipTo
    rw [List.getD_eq_getElem?_getD, List.getElem?_append_right (by omega), e1, Nat.sub_self, drop_at l n hn]; rfl
  rw [e2]
  unfold clipTo
  rw [List.set_append, if_neg (by rw [e1]; omega), e1, Nat.sub_self, drop_at l n hn, List.set_cons_zero, List.take_succ_eq_append_getElem hn, List.map_append, List.append_assoc]; rfl
theorem implInv_loop (l : List Int) (hl : l.length = 64) (k : Nat) (hk : 64 < k) : impl_Inverse.l0 k l (l.length : Int) 0 = some (l.map clp) := by
  have h := state_loop (fun k s i => impl_Inverse.l0 k s (l.length : Int) i) (clipTo l) 64 (l.map clp) ?_ ?_ k hk
  · rw [show clipTo l 0 = l by simp [clipTo]] at h; exact h
  · intro k i hi
    have hc := clipTo_len l i (by omega)
    show impl_Inverse.l0 (k + 1) (clipTo l i) _ (i : Int) = _
    rw [impl_Inverse.l0, if_pos (by omega), if_pos (by omega), if_pos (by omega), rd_getD, wsucc (by omega), Int.toNat_natCast]
    show impl_Inverse.l0 k ((clipTo l i).set i (clp ((clipTo l i).getD i 0))) _ _ = _
    rw [clipTo_step l i (by omega)]
  · intro k
    show impl_Inverse.l0 (k + 1) (clipTo l 64) _ _ = _
    rw [impl_Inverse.l0, if_neg (by omega)]
    rw [show clipTo l 64 = l.map clp by unfold clipTo; rw [List.take_of_length_le (by omega), List.drop_eq_nil_of_le (by omega), List.append_nil]]
theorem implInv_ev (l : List Int) : ∃ K : Nat, ∀ k : Nat, K ≤ k → impl_Inverse.f k l = some (invR l) := by
  by_cases h : okL (-32767) 32767 l = true
  · obtain ⟨K, hK⟩ := (iturned_to l bas cI (okL_iff.1 h).1 (fun i k hi hk => cI_eq i k hi hk)).ends
    refine ⟨K + 100, fun k hk => ?_⟩
    have e : ((List.range 64).map (itR l cI)).map clp = (List.range 64).map (ipR l bas) := by
      rw [List.map_map]
      exact List.map_congr_left fun q _ => inv_same l (q / 8) (q % 8)
    unfold impl_Inverse.f invR
    rw [implBlockOk_eq l k (by omega), Option.bind_some, if_pos h, implBasis_eq k (by omega), Option.bind_some, hK k (by omega), Option.bind_some, if_pos h, implInv_loop _ (by simp) k (by omega), e]
  · refine ⟨100, fun k hk => ?_⟩
    unfold impl_Inverse.f invR
    rw [implBlockOk_eq l k (by omega), Option.bind_some, if_neg h, if_neg h]

theorem toIntS_loop (l : List Int) (hl : l.length ≤ 4611686018427387904) : ∀ (d k i : Nat) (x : List Int), i + d = l.length → d < k → x.length = l.length → (∀ j, j < i → x[j]? = l[j]?) → laws_toIntS.l0 k l x (i : Int) = some l := by
  intro d
  induction d with
  | zero =>
    intro k i x hi hk hx he
    obtain ⟨k, rfl⟩ : ∃ m, k = m + 1 := ⟨k - 1, by omega⟩
    rw [laws_toIntS.l0, if_neg (by omega)]
    congr 1
    apply List.ext_getElem? 
    intro j
    by_cases hj : j < i
    · exact he j hj
    · rw [List.getElem?_eq_none (by omega), List.getElem?_eq_none (by omega)]
  | succ d ih =>
    intro k i x hi hk hx he
    obtain ⟨k, rfl⟩ : ∃ m, k = m + 1 := ⟨k - 1, by omega⟩
    rw [laws_toIntS.l0, if_pos (by omega), if_pos (by omega), if_pos (by omega), wsucc (by omega)]
    refine ih k (i + 1) _ (by omega) (by omega) (by simpa using hx) ?_
    intro j hj
    rw [rd_nat l i (by omega), Int.toNat_natCast, List.getElem?_set]
    by_cases e : i = j
    · subst e; simp [show i < x.length by omega, List.getElem?_eq_getElem (show i < l.length by omega)]
    · rw [if_neg e]; exact he j (by omega)
theorem toIntS_eq (l : List Int) (hl : l.length ≤ 17592186044416) (k : Nat) (hk : l.length < k) : laws_toIntS.f k l = some l := by
  unfold laws_toIntS.f
  rw [if_pos (by omega), if_pos (by omega)]
  exact toIntS_loop l (by omega) l.length k 0 _ (by omega) hk (by simp) (by intro j hj; omega)

theorem eqIntS_loop (l : List Int) (hl : l.length ≤ 4611686018427387904) : ∀ (d k i : Nat), i + d = l.length → d < k → laws_eqIntS.l0 k l l (i : Int) = some true := by
  intro d
  induction d with
  | zero =>
    intro k i hi hk
    obtain ⟨k, rfl⟩ : ∃ m, k = m + 1 := ⟨k - 1, by omega⟩
    rw [laws_eqIntS.l0, if_neg (by omega)]
  | succ d ih =>
    intro k i hi hk
    obtain ⟨k, rfl⟩ : ∃ m, k = m + 1 := ⟨k - 1, by omega⟩
    rw [laws_eqIntS.l0, if_pos (by omega), if_pos (by omega), if_pos (by omega), if_pos rfl, wsucc (by omega)]
    exact ih k (i + 1) (by omega) (by omega)
theorem eqIntS_refl (l : List Int) (hl : l.length ≤ 4611686018427387904) (k : Nat) (hk : l.length < k) : laws_eqIntS.f k l l = some true := by
  unfold laws_eqIntS.f
  rw [if_pos rfl]
  exact eqIntS_loop l hl l.length k 0 (by omega) hk

def marks (m : Int) (n : Nat) : List Int := (List.range n).map fun j : Nat => m + (j : Int)
theorem marks_len (m : Int) (n : Nat) : (marks m n).length = n := by simp [marks]
theorem markIntS_loop (m : Int) (n : Nat) (hm : -1 ≤ m ∧ m ≤ 2305843009213693952) (hn : n ≤ 2305843009213693952) : ∀ (d k i : Nat) (x : List Int), i + d = n → d < k → x.length = n → (∀ j : Nat, j < i → x[j]? = some (m + (j : Int))) → laws_markIntS.l0 k x (m + (i : Int)) (i : Int) = some (m + (n : Int), marks m n) := by
  intro d
  induction d with
  | zero =>
    intro k i x h1 hk hx he
    obtain ⟨k, rfl⟩ : ∃ m, k = m + 1 := ⟨k - 1, by omega⟩
    rw [laws_markIntS.l0, if_neg (by omega)]
    have e : x = marks m n := by
      apply List.ext_getElem?
      intro j
      by_cases hj : j < n
      · rw [he j (by omega)]; simp [marks, hj]
      · rw [List.getElem?_eq_none (by omega), List.getElem?_eq_none (by rw [marks_len]; omega)]
    rw [e, show i = n by omega]
  | succ d ih =>
    intro k i x h1 hk hx he
    obtain ⟨k, rfl⟩ : ∃ m, k = m + 1 := ⟨k - 1, by omega⟩
    rw [laws_markIntS.l0, if_pos (by omega), if_pos (by omega), wsucc (by omega), w64 (by omega) (by omega), show m + (i : Int) + 1 = m + ((i + 1 : Nat) : Int) by omega]
    refine ih k (i + 1) _ (by omega) (by omega) (by simpa using hx) ?_
    intro j hj
    rw [Int.toNat_natCast, List.getElem?_set]
    by_cases e : i = j
    · subst e; simp [show i < x.length by omega]
    · rw [if_neg e]; exact he j (by omega)
theorem markIntS_eq (l : List Int) (m : Int) (hm : -1 ≤ m ∧ m ≤ 2305843009213693952) (hn : l.length ≤ 2305843009213693952) (k : Nat) (hk : l.length < k) : laws_markIntS.f k l m = some (m + (l.length : Int), marks m l.length) := by
  unfold laws_markIntS.f
  have := markIntS_loop m l.length hm hn l.length k 0 l (by omega) hk rfl (by intro j hj; omega)
  simpa using this

theorem heldIntS_loop (m : Int) (n : Nat) (hm : -1 ≤ m ∧ m ≤ 2305843009213693952) (hn : n ≤ 2305843009213693952) : ∀ (d k i : Nat), i + d = n → d < k → laws_heldIntS.l0 k (marks m n) (m + (i : Int)) (i : Int) = some (m + (n : Int)) := by
  intro d
  have hl := marks_len m n
  induction d with
  | zero =>
    intro k i h1 hk
    obtain ⟨k, rfl⟩ : ∃ m, k = m + 1 := ⟨k - 1, by omega⟩
    rw [laws_heldIntS.l0, if_neg (by omega), show i = n by omega]
  | succ d ih =>
    intro k i h1 hk
    obtain ⟨k, rfl⟩ : ∃ m, k = m + 1 := ⟨k - 1, by omega⟩
    rw [laws_heldIntS.l0, if_pos (by omega), if_pos (by omega), rd_nat (marks m n) i (by omega), if_pos (by simp [marks]), wsucc (by omega), w64 (by omega) (by omega), show m + (i : Int) + 1 = m + ((i + 1 : Nat) : Int) by omega]
    exact ih k (i + 1) (by omega) (by omega)
theorem heldIntS_eq (m : Int) (n : Nat) (hm : -1 ≤ m ∧ m ≤ 2305843009213693952) (hn : n ≤ 2305843009213693952) (k : Nat) (hk : n < k) : laws_heldIntS.f k (marks m n) m = some (m + (n : Int)) := by
  unfold laws_heldIntS.f
  have := heldIntS_loop m n hm hn n k 0 (by omega) hk
  simpa using this

theorem FnExactInverse : laws_FnExactInverse.Pure := by
  intro l hm hr0 hw
  obtain ⟨K2, e2⟩ := specInv_ev l
  obtain ⟨K3, e3⟩ := implInv_ev l
  obtain ⟨K, hK⟩ : ∃ K, K = l.length + K2 + K3 + 400 := ⟨_, rfl⟩
  refine ⟨K + 1, ?_⟩
  unfold laws_FnExactInverse.f
  by_cases h : (l.length : Int) > 1048576
  · rw [if_pos h]
  rw [if_neg h]
  have hrl := invR_len l
  obtain ⟨r, hr⟩ : ∃ r, r = invR l := ⟨_, rfl⟩
  rw [← hr] at e2 e3 hrl
  have e1 := toIntS_eq l (by omega)
  have e4 := eqIntS_refl l (by omega)
  have e5 := eqIntS_refl r (by omega)
  have e6 := markIntS_eq l 1 (by omega) (by omega)
  have e7 := markIntS_eq r 1 (by omega) (by omega)
  have e8 := heldIntS_eq 1 r.length (by omega) (by omega)
  have g1 : ¬ (1 + (l.length : Int) < 0) := by omega
  have g2 : ¬ (1 + (r.length : Int) < 0) := by omega
  simp (disch := omega) only [e1, e2, e3, e4, e5, e6, Option.bind_some, if_true, if_neg g1]
  rw [laws_FnExactInverse.j0]
  simp (disch := omega) only [e1, e3, e5, e7, e8, Option.bind_some, if_true, if_neg g2, Bool.not_true, Bool.false_eq_true, if_false]

end Go.Proofs.Yticlmpkbcmanfaa.Pure
