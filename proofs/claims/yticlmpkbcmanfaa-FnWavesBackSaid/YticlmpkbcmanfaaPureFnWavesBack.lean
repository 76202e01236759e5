/- Drawn samples that became waves and samples again differ by at most 16 from what they were, and a flat block has no wave but the first, for every input that the law's guards let in. -/
import Derived.Test.YticlmpkbcmanfaaPFnWavesBackx9
import Derived.Test.YticlmpkbcmanfaaWSized
-- The printed row names this word without its seat: the same fact under that name.
namespace Go.Proofs.PrintWords
theorem sized_ints {H : Type} {enc : TypeId × Value → H} {P : Program} {W : World} {base : Nat} {spare : Nat → Bool} {held : Bool} {t e : TypeId} {k : IntKind} {a : Option Addr} {len cap : Nat} {d : DataW H} {ps : List MemPlace} {ts : List TypeId} {ds : List (DataW H)} {j : Nat} (hsz : (DataW.weightsEach P ts ds).all (· ≤ reachBytes) = true) (ht : ts[j]? = some t) (hd : ds[j]? = some d) (hu : P.underlying t = some (.slice e)) (he : P.underlying e = some (.int k)) (hc : P.cellsOf e = 1) {B : Nat} (hB : P.bytesOf e = B) (h : DataW.Trod enc P W base spare held t (.slice a len cap) d ps) : len * B ≤ 140737488351232 := Go.Proofs.YticlmpkbcmanfaaW.PrintWords.sized_ints hsz ht hd hu he hc hB h
end Go.Proofs.PrintWords
namespace Go.Proofs.Yticlmpkbcmanfaa.Pure
open Go.RowKit Go.Proofs.Yticlmpkbcmanfaa.PFnWavesBack Go.Proofs.YticlmpkbcmanfaaW.PrintWords Go.Proofs.YticlmpkbcmanfaaW.PrintLast Go.Proofs.YticlmpkbcmanfaaW.PrintMore
set_option linter.unusedVariables false
set_option linter.unusedSimpArgs false
set_option maxRecDepth 4000

theorem w64 {x : Int} (h1 : -9223372036854775808 ≤ x) (h2 : x ≤ 9223372036854775807) : wrap64 x = x := by unfold wrap64; omega
theorem wsucc {i : Nat} (h : i ≤ 4611686018427387904) : wrap64 ((i : Int) + 1) = ((i + 1 : Nat) : Int) := by unfold wrap64; omega
theorem rd_nat (l : List Int) (i : Nat) (h : i < l.length) : rd l (i : Int) = l[i] := by simp [rd, List.getD_eq_getElem?_getD, h]
theorem drop_at {α : Type} (l : List α) (i : Nat) (h : i < l.length) : l.drop i = l[i] :: l.drop (i + 1) := List.drop_eq_getElem_cons h
theorem wf64 {x : Int} (h : (Lit.int .i64 x).wf = true) : -9223372036854775808 ≤ x ∧ x ≤ 9223372036854775807 := by
  simp [Lit.wf, IntKind.min, IntKind.max, IntKind.bits, IntKind.signed] at h; omega
theorem wfu8 {x : Int} (h : (Lit.int .u8 x).wf = true) : 0 ≤ x ∧ x ≤ 255 := by
  simp [Lit.wf, IntKind.min, IntKind.max, IntKind.bits, IntKind.signed] at h; omega

def inR (lo hi : Int) (l : List Int) : Bool := l.all fun x => decide (lo ≤ x ∧ x ≤ hi)
theorem inR_nil (lo hi : Int) : inR lo hi [] = true := rfl
theorem inR_cons (lo hi x : Int) (l : List Int) : inR lo hi (x :: l) = (decide (lo ≤ x ∧ x ≤ hi) && inR lo hi l) := rfl
theorem inR_at {lo hi : Int} {l : List Int} (h : inR lo hi l = true) (i : Nat) (hi' : i < l.length) : lo ≤ l[i] ∧ l[i] ≤ hi := by
  unfold inR at h; rw [List.all_eq_true] at h; simpa using h l[i] (List.getElem_mem hi')

theorem rd_getD (l : List Int) (i : Nat) : rd l (i : Int) = l.getD i 0 := by simp [rd]
theorem push_loop {α β : Type} (F : Nat → List α → Int → Option β) (g : Nat → α) (n : Nat) (res : β)
    (hstep : ∀ (k i : Nat) (a : List α), i < n → a.length = i → F (k + 1) a (i : Int) = F k (a ++ [g i]) ((i + 1 : Nat) : Int))
    (hend : ∀ k : Nat, F (k + 1) ((List.range n).map g) (n : Int) = some res) : ∀ k : Nat, n < k → F k [] 0 = some res := by
  have main : ∀ (d k i : Nat), i + d = n → d < k → F k ((List.range i).map g) (i : Int) = some res := by
    intro d
    induction d with
    | zero =>
      intro k i h1 hk
      obtain ⟨k, rfl⟩ : ∃ m, k = m + 1 := ⟨k - 1, by omega⟩
      obtain rfl : i = n := by omega
      exact hend k
    | succ d ih =>
      intro k i h1 hk
      obtain ⟨k, rfl⟩ : ∃ m, k = m + 1 := ⟨k - 1, by omega⟩
      rw [hstep k i _ (by omega) (by simp)]
      have e : (List.range (i + 1)).map g = (List.range i).map g ++ [g i] := by rw [List.range_succ, List.map_append]; rfl
      rw [← e]
      exact ih k (i + 1) (by omega) (by omega)
  intro k hk
  exact main n k 0 (by omega) hk
theorem state_loop {σ β : Type} (F : Nat → σ → Int → Option β) (s : Nat → σ) (n : Nat) (res : β)
    (hstep : ∀ (k i : Nat), i < n → F (k + 1) (s i) (i : Int) = F k (s (i + 1)) ((i + 1 : Nat) : Int))
    (hend : ∀ k : Nat, F (k + 1) (s n) (n : Int) = some res) : ∀ k : Nat, n < k → F k (s 0) 0 = some res := by
  have main : ∀ (d k i : Nat), i + d = n → d < k → F k (s i) (i : Int) = some res := by
    intro d
    induction d with
    | zero =>
      intro k i h1 hk
      obtain ⟨k, rfl⟩ : ∃ m, k = m + 1 := ⟨k - 1, by omega⟩
      obtain rfl : i = n := by omega
      exact hend k
    | succ d ih =>
      intro k i h1 hk
      obtain ⟨k, rfl⟩ : ∃ m, k = m + 1 := ⟨k - 1, by omega⟩
      rw [hstep k i (by omega)]
      exact ih k (i + 1) (by omega) (by omega)
  intro k hk
  exact main n k 0 (by omega) hk
theorem inR_getD {lo hi : Int} {l : List Int} (h : inR lo hi l = true) (i : Nat) (h' : i < l.length) : lo ≤ l.getD i 0 ∧ l.getD i 0 ≤ hi := by
  have := inR_at h i h'
  simpa [List.getD_eq_getElem?_getD, h'] using this

def To {α : Type} (f g : Nat → α) : Prop := ∃ K : Nat, ∀ k : Nat, f (k + K) = g k
theorem To.refl {α : Type} (f : Nat → α) : To f f := ⟨0, fun _ => rfl⟩
theorem To.trans {α : Type} {f g h : Nat → α} (a : To f g) (b : To g h) : To f h := by
  obtain ⟨K, a⟩ := a
  obtain ⟨L, b⟩ := b
  exact ⟨L + K, fun k => by rw [← Nat.add_assoc, a, b]⟩
theorem To.step {α : Type} {f g : Nat → α} (a : ∀ k : Nat, f (k + 1) = g k) : To f g := ⟨1, a⟩
theorem To.eq {α : Type} {f g : Nat → α} (a : ∀ k : Nat, f k = g k) : To f g := ⟨0, a⟩
theorem To.ends {α : Type} {f : Nat → α} {r : α} (a : To f fun _ => r) : ∃ K : Nat, ∀ k : Nat, K ≤ k → f k = r := by
  obtain ⟨K, a⟩ := a
  exact ⟨K, fun k hk => by obtain ⟨j, rfl⟩ : ∃ j, k = j + K := ⟨k - K, by omega⟩; exact a j⟩

theorem tdw {x y : Int} (h0 : 0 ≤ x) (h1 : x ≤ 4611686018427387904) (hy : 0 < y) : wrap64 (Int.tdiv x y) = x / y := by
  rw [Int.tdiv_eq_ediv_of_nonneg h0]
  have a := Int.ediv_nonneg h0 (Int.le_of_lt hy)
  have b := Int.ediv_le_self y h0
  exact w64 (by omega) (by omega)
theorem div_bd {x y : Int} (h0 : 0 ≤ x) (hy : 0 < y) : 0 ≤ x / y ∧ x / y ≤ x := ⟨Int.ediv_nonneg h0 (Int.le_of_lt hy), Int.ediv_le_self y h0⟩

theorem ww (x y : Int) (h : x % 18446744073709551616 = y % 18446744073709551616) : wrap64 x = wrap64 y := by unfold wrap64; omega
theorem wmod (x : Int) : wrap64 x % 18446744073709551616 = x % 18446744073709551616 := by unfold wrap64; omega
theorem w_add_l (a b : Int) : wrap64 (wrap64 a + b) = wrap64 (a + b) := by unfold wrap64; omega
theorem w_add_r (a b : Int) : wrap64 (a + wrap64 b) = wrap64 (a + b) := by unfold wrap64; omega
theorem w_mul_l (a b : Int) : wrap64 (wrap64 a * b) = wrap64 (a * b) := ww _ _ (by rw [Int.mul_emod, wmod, ← Int.mul_emod])
theorem w_mul_r (a b : Int) : wrap64 (a * wrap64 b) = wrap64 (a * b) := ww _ _ (by rw [Int.mul_emod, wmod, ← Int.mul_emod])
theorem w_zero : wrap64 0 = 0 := by decide +kernel
/-- The sum of the first n values. -/
def sm (n : Nat) (f : Nat → Int) : Int := match n with
  | 0 => 0
  | n + 1 => sm n f + f n
theorem sm_zero (f : Nat → Int) : sm 0 f = 0 := rfl
theorem sm_succ (n : Nat) (f : Nat → Int) : sm (n + 1) f = sm n f + f n := rfl
theorem sm_congr (n : Nat) (f g : Nat → Int) (h : ∀ i, i < n → f i = g i) : sm n f = sm n g := by
  induction n with
  | zero => rfl
  | succ n ih => rw [sm_succ, sm_succ, ih (fun i hi => h i (by omega)), h n (by omega)]
theorem sm_add (n : Nat) (f g : Nat → Int) : sm n (fun i => f i + g i) = sm n f + sm n g := by
  induction n with
  | zero => rfl
  | succ n ih => rw [sm_succ, sm_succ, sm_succ, ih]; omega
theorem sm_mul (n : Nat) (c : Int) (f : Nat → Int) : c * sm n f = sm n (fun i => c * f i) := by
  induction n with
  | zero => rw [sm_zero, sm_zero, Int.mul_zero]
  | succ n ih => rw [sm_succ, sm_succ, Int.mul_add, ih]
theorem sm_const0 (n : Nat) : sm n (fun _ => 0) = 0 := by
  induction n with
  | zero => rfl
  | succ n ih => rw [sm_succ, ih]; rfl
theorem sm_swap (n m : Nat) (f : Nat → Nat → Int) : sm n (fun i => sm m (fun j => f i j)) = sm m (fun j => sm n (fun i => f i j)) := by
  induction n with
  | zero => rw [sm_zero]; symm; exact sm_const0 m
  | succ n ih =>
    rw [sm_succ, ih, ← sm_add]; rfl
theorem To.loop {α : Type} (F : Nat → Nat → α) (n : Nat) (G : Nat → α) (hs : ∀ i, i < n → To (F i) (F (i + 1))) (he : To (F n) G) : To (F 0) G := by
  have key : ∀ d i : Nat, i + d = n → To (F i) G := by
    intro d
    induction d with
    | zero =>
      intro i h
      have e : i = n := by omega
      subst e; exact he
    | succ d ih => intro i h; exact (hs i (by omega)).trans (ih (i + 1) (by omega))
  exact key n 0 (by omega)
theorem ix8 (i j : Nat) (hi : i < 8) (hj : j < 8) : wrap64 (wrap64 (8 * (i : Int)) + (j : Int)) = ((8 * i + j : Nat) : Int) := by unfold wrap64; omega
def bas : List Int := [1448, 1448, 1448, 1448, 1448, 1448, 1448, 1448, 2009, 1703, 1138, 400, -400, -1138, -1703, -2009, 1892, 784, -784, -1892, -1892, -784, 784, 1892, 1703, -400, -2009, -1138, 1138, 2009, 400, -1703, 1448, -1448, -1448, 1448, 1448, -1448, -1448, 1448, 1138, -2009, 400, 1703, -1703, -400, 2009, -1138, 784, -1892, 1892, -784, -784, 1892, -1892, 784, 400, -1138, 1703, -2009, 2009, -1703, 1138, -400]
theorem bas_len : bas.length = 64 := rfl
theorem specBasis_eq (k : Nat) (hk : 100 ≤ k) : spec_Basis.f k = some bas :=
  at_rounds (g := fun k => spec_Basis.f k) (fun k => spec_Basis.mono k) hk (by decide +kernel)
theorem implBasis_eq (k : Nat) (hk : 100 ≤ k) : impl_Basis.f k = some bas :=
  at_rounds (g := fun k => impl_Basis.f k) (fun k => impl_Basis.mono k) hk (by decide +kernel)
theorem round_same2 (a b : Int) : spec_l05Round.f a b = impl_rounded.f a b := by
  unfold spec_l05Round.f impl_rounded.f spec_l05Floor.f impl_below.f
  by_cases h : wrap64 (wrap64 (2 * a) + b) < 0
  · rw [if_neg (by omega), if_pos h]
  · rw [if_pos (by omega), if_neg h]
theorem implRound_some (a : Int) : ∃ r, impl_rounded.f a 16777216 = some r := by
  unfold impl_rounded.f impl_below.f
  rw [show wrap64 (2 * 16777216) = 33554432 by decide +kernel]
  split
  · rw [if_neg (by omega)]; exact ⟨_, rfl⟩
  · rw [if_neg (by omega)]; exact ⟨_, rfl⟩
def rnd (a : Int) : Int := (impl_rounded.f a 16777216).getD 0
theorem implRound_eq (a : Int) : impl_rounded.f a 16777216 = some (rnd a) := by
  obtain ⟨r, h⟩ := implRound_some a
  unfold rnd; rw [h]; rfl
theorem specRound_eq (a : Int) : spec_l05Round.f a 16777216 = some (rnd a) := by rw [round_same2, implRound_eq]
theorem rd_set (h : List Int) (p : Nat) (a : Int) (hp : p < h.length) : rd (h.set p a) (p : Int) = a := by
  rw [rd_getD, List.getD_eq_getElem?_getD, List.getElem?_set_self hp]; rfl
/-- A row of 64 whose first n are told by g. -/
def fil (g : Nat → Int) (n : Nat) : List Int := (List.range 64).map fun q => if q < n then g q else 0
theorem fil_len (g : Nat → Int) (n : Nat) : (fil g n).length = 64 := by simp [fil]
theorem fil_getD (g : Nat → Int) (n q : Nat) (hq : q < 64) : (fil g n).getD q 0 = if q < n then g q else 0 := by
  rw [List.getD_eq_getElem?_getD]; unfold fil; rw [List.getElem?_map, List.getElem?_range hq]; rfl
theorem fil_set (g : Nat → Int) (n : Nat) (hn : n < 64) : (fil g n).set n (g n) = fil g (n + 1) := by
  apply List.ext_getElem
  · rw [List.length_set, fil_len, fil_len]
  · intro i h1 h2
    rw [fil_len] at h2
    rw [List.getElem_set]
    simp only [fil, List.getElem_map, List.getElem_range]
    by_cases e : n = i
    · subst e; rw [if_pos rfl, if_pos (by omega)]
    · rw [if_neg e]
      by_cases h : i < n
      · rw [if_pos h, if_pos (by omega)]
      · rw [if_neg h, if_neg (by omega)]
theorem fil_zero (g : Nat → Int) : fil g 0 = List.replicate 64 0 := by
  apply List.ext_getElem
  · rw [fil_len, List.length_replicate]
  · intro i h1 h2; simp only [fil, List.getElem_map, List.getElem_range, List.getElem_replicate]; rw [if_neg (by omega)]
theorem fil_all (g : Nat → Int) : fil g 64 = (List.range 64).map g := by
  apply List.ext_getElem
  · simp [fil]
  · intro i h1 h2; rw [fil_len] at h1; simp [fil, h1]

def fpW (l w : List Int) (u v y x : Nat) : Int := l.getD (8 * y + x) 0 * w.getD (8 * u + y) 0 * w.getD (8 * v + x) 0
def fpS (l w : List Int) (u v : Nat) : Int := sm 8 fun y => sm 8 fun x => fpW l w u v y x
def fpO (l w : List Int) (u v : Nat) : Int := (rnd (wrap64 (fpS l w u v)))
def fpR (l w : List Int) (q : Nat) : Int := fpO l w (q / 8) (q % 8)
theorem fp3 (l w a : List Int) (hl : l.length = 64) (hw : w.length = 64) (u v y : Nat) (hu : u < 8) (hv : v < 8) (hy : y < 8) (s : Int) :
    To (fun k => spec_Forward.l3 k l a w (u : Int) (v : Int) (wrap64 s) (y : Int) 0) (fun k => spec_Forward.l2 k l a w (u : Int) (v : Int) (wrap64 (s + sm 8 fun x => fpW l w u v y x)) ((y + 1 : Nat) : Int)) := by
  have key := To.loop (fun n k => spec_Forward.l3 k l a w (u : Int) (v : Int) (wrap64 (s + sm n fun x => fpW l w u v y x)) (y : Int) (n : Int)) 8 (fun k => spec_Forward.l2 k l a w (u : Int) (v : Int) (wrap64 (s + sm 8 fun x => fpW l w u v y x)) ((y + 1 : Nat) : Int)) ?_ ?_
  · rw [sm_zero, Int.add_zero] at key; exact key
  · intro n hn
    refine To.step fun k => ?_
    rw [spec_Forward.l3, if_pos (by omega), ix8 y n hy hn, ix8 u y hu hy, ix8 v n hv hn, if_pos (by omega), if_pos (by omega), if_pos (by omega), if_pos (by omega), if_pos (by omega), if_pos (by omega), rd_getD, rd_getD, rd_getD, w_mul_l, w_add_l, w_add_r, wsucc (by omega), sm_succ, Int.add_assoc]; rfl
  · refine To.step fun k => ?_
    rw [spec_Forward.l3, if_neg (by omega), wsucc (by omega)]
theorem fp2 (l w a : List Int) (hl : l.length = 64) (hw : w.length = 64) (ha : a.length ≤ 64) (u v : Nat) (hu : u < 8) (hv : v < 8) :
    To (fun k => spec_Forward.l2 k l a w (u : Int) (v : Int) 0 0) (fun k => spec_Forward.l1 k l (a ++ [fpO l w u v]) w (u : Int) ((v + 1 : Nat) : Int)) := by
  have key := To.loop (fun n k => spec_Forward.l2 k l a w (u : Int) (v : Int) (wrap64 (sm n fun y => sm 8 fun x => fpW l w u v y x)) (n : Int)) 8 (fun k => spec_Forward.l1 k l (a ++ [fpO l w u v]) w (u : Int) ((v + 1 : Nat) : Int)) ?_ ?_
  · rw [sm_zero, w_zero] at key; exact key
  · intro n hn
    refine To.trans (To.step (g := fun k => spec_Forward.l3 k l a w (u : Int) (v : Int) (wrap64 (sm n fun y => sm 8 fun x => fpW l w u v y x)) (n : Int) 0) fun k => ?_) (fp3 l w a hl hw u v n hu hv hn _)
    rw [spec_Forward.l2, if_pos (by omega)]
  · refine To.step fun k => ?_
    rw [spec_Forward.l2, if_neg (by omega), specRound_eq, Option.bind_some, if_pos (by omega), wsucc (by omega)]; rfl
theorem fp1 (l w : List Int) (hl : l.length = 64) (hw : w.length = 64) (u : Nat) (hu : u < 8) :
    To (fun k => spec_Forward.l1 k l ((List.range (8 * u)).map (fpR l w)) w (u : Int) 0) (fun k => spec_Forward.l0 k l ((List.range (8 * (u + 1))).map (fpR l w)) w ((u + 1 : Nat) : Int)) := by
  refine To.loop (fun v k => spec_Forward.l1 k l ((List.range (8 * u + v)).map (fpR l w)) w (u : Int) (v : Int)) 8 _ ?_ ?_
  · intro v hv
    refine To.trans (To.step (g := fun k => spec_Forward.l2 k l ((List.range (8 * u + v)).map (fpR l w)) w (u : Int) (v : Int) 0 0) fun k => ?_) ?_
    · rw [spec_Forward.l1, if_pos (by omega)]
    · have h := fp2 l w ((List.range (8 * u + v)).map (fpR l w)) hl hw (by simp; omega) u v hu hv
      have e : fpO l w u v = fpR l w (8 * u + v) := by unfold fpR; rw [show (8 * u + v) / 8 = u by omega, show (8 * u + v) % 8 = v by omega]
      have e2 : (List.range (8 * u + v)).map (fpR l w) ++ [fpR l w (8 * u + v)] = (List.range (8 * u + (v + 1))).map (fpR l w) := by rw [← Nat.add_assoc, List.range_succ, List.map_append]; rfl
      rw [e, e2] at h
      exact h
  · refine To.step fun k => ?_
    rw [spec_Forward.l1, if_neg (by omega), wsucc (by omega)]; rfl
theorem fp0 (l w : List Int) (hl : l.length = 64) (hw : w.length = 64) : To (fun k => spec_Forward.l0 k l [] w 0) (fun _ => some ((List.range 64).map (fpR l w))) := by
  refine To.loop (fun u k => spec_Forward.l0 k l ((List.range (8 * u)).map (fpR l w)) w (u : Int)) 8 _ ?_ ?_
  · intro u hu
    refine To.trans (To.step (g := fun k => spec_Forward.l1 k l ((List.range (8 * u)).map (fpR l w)) w (u : Int) 0) fun k => ?_) (fp1 l w hl hw u hu)
    rw [spec_Forward.l0, if_pos (by omega)]
  · refine To.step fun k => ?_
    rw [spec_Forward.l0, if_neg (by omega)]

def ftT (l : List Int) (c : Nat → Nat → Int) (i x : Nat) : Int := sm 8 fun k => c i k * l.getD (8 * k + x) 0
def ftH (l : List Int) (c : Nat → Nat → Int) (q : Nat) : Int := wrap64 (ftT l c (q / 8) (q % 8))
def ftO (l : List Int) (c : Nat → Nat → Int) (i j : Nat) : Int := rnd (wrap64 (sm 8 fun k => c j k * ftT l c i k))
def ftR (l : List Int) (c : Nat → Nat → Int) (q : Nat) : Int := ftO l c (q / 8) (q % 8)
theorem ft2 (l w h o : List Int) (c : Nat → Nat → Int) (hl : l.length = 64) (hc : ∀ i k : Nat, i < 8 → k < 8 → impl_Forward_c1.f (i : Int) (k : Int) w = some (c i k)) (i x : Nat) (hi : i < 8) (hx : x < 8) (hh : h.length = 64) (h0 : h.getD (8 * i + x) 0 = 0) :
    To (fun k => impl_turned.l2 k l w h o (i : Int) (x : Int) (i : Int) (x : Int) 0) (fun k => impl_turned.l1 k l w (h.set (8 * i + x) (wrap64 (ftT l c i x))) o (i : Int) (i : Int) ((x + 1 : Nat) : Int)) := by
  have hs : h.set (8 * i + x) (wrap64 (sm 0 fun k => c i k * l.getD (8 * k + x) 0)) = h := by
    apply List.ext_getElem
    · rw [List.length_set]
    · intro q h1 h2
      rw [List.getElem_set]
      split
      · rename_i e; subst e
        rw [sm_zero, w_zero, ← h0, List.getD_eq_getElem?_getD, List.getElem?_eq_getElem h2]; rfl
      · rfl
  have key := To.loop (fun n k => impl_turned.l2 k l w (h.set (8 * i + x) (wrap64 (sm n fun k => c i k * l.getD (8 * k + x) 0))) o (i : Int) (x : Int) (i : Int) (x : Int) (n : Int)) 8 (fun k => impl_turned.l1 k l w (h.set (8 * i + x) (wrap64 (ftT l c i x))) o (i : Int) (i : Int) ((x + 1 : Nat) : Int)) ?_ ?_
  · rw [hs] at key; exact key
  · intro n hn
    refine To.step fun k => ?_
    rw [impl_turned.l2, if_pos (by omega), ix8 i x hi hx, if_pos (by omega), if_pos (by rw [List.length_set]; omega), hc i n hi hn, Option.bind_some, ix8 n x hn hx, if_pos (by omega), if_pos (by omega), rd_getD l, rd_set _ _ _ (by omega), w_add_l, w_add_r, wsucc (by omega), Int.toNat_natCast, List.set_set, sm_succ]
  · refine To.step fun k => ?_
    rw [impl_turned.l2, if_neg (by omega), wsucc (by omega)]; rfl
theorem ft1 (l w o : List Int) (c : Nat → Nat → Int) (hl : l.length = 64) (hc : ∀ i k : Nat, i < 8 → k < 8 → impl_Forward_c1.f (i : Int) (k : Int) w = some (c i k)) (i : Nat) (hi : i < 8) :
    To (fun k => impl_turned.l1 k l w (fil (ftH l c) (8 * i)) o (i : Int) (i : Int) 0) (fun k => impl_turned.l0 k l w (fil (ftH l c) (8 * (i + 1))) o ((i + 1 : Nat) : Int)) := by
  refine To.loop (fun x k => impl_turned.l1 k l w (fil (ftH l c) (8 * i + x)) o (i : Int) (i : Int) (x : Int)) 8 _ ?_ ?_
  · intro x hx
    refine To.trans (To.step (g := fun k => impl_turned.l2 k l w (fil (ftH l c) (8 * i + x)) o (i : Int) (x : Int) (i : Int) (x : Int) 0) fun k => ?_) ?_
    · rw [impl_turned.l1, if_pos (by omega)]
    · have h := ft2 l w (fil (ftH l c) (8 * i + x)) o c hl hc i x hi hx (fil_len _ _) (by rw [fil_getD _ _ _ (by omega), if_neg (by omega)])
      have e : wrap64 (ftT l c i x) = ftH l c (8 * i + x) := by unfold ftH; rw [show (8 * i + x) / 8 = i by omega, show (8 * i + x) % 8 = x by omega]
      rw [e, fil_set _ _ (by omega)] at h
      exact h
  · refine To.step fun k => ?_
    rw [impl_turned.l1, if_neg (by omega), wsucc (by omega)]; rfl
theorem ft5 (l w o : List Int) (c : Nat → Nat → Int) (hl : l.length = 64) (hc : ∀ i k : Nat, i < 8 → k < 8 → impl_Forward_c1.f (i : Int) (k : Int) w = some (c i k)) (i j : Nat) (hi : i < 8) (hj : j < 8) (ho : o.length = 64) :
    To (fun k => impl_turned.l5 k w (fil (ftH l c) 64) o (i : Int) (j : Int) 0 (i : Int) (j : Int) 0) (fun k => impl_turned.l4 k w (fil (ftH l c) 64) (o.set (8 * i + j) (ftO l c i j)) (i : Int) (i : Int) ((j + 1 : Nat) : Int)) := by
  have key := To.loop (fun n k => impl_turned.l5 k w (fil (ftH l c) 64) o (i : Int) (j : Int) (wrap64 (sm n fun k => c j k * ftT l c i k)) (i : Int) (j : Int) (n : Int)) 8 (fun k => impl_turned.l4 k w (fil (ftH l c) 64) (o.set (8 * i + j) (ftO l c i j)) (i : Int) (i : Int) ((j + 1 : Nat) : Int)) ?_ ?_
  · rw [sm_zero, w_zero] at key; exact key
  · intro n hn
    refine To.step fun k => ?_
    have e : (fil (ftH l c) 64).getD (8 * i + n) 0 = wrap64 (ftT l c i n) := by
      rw [fil_getD _ _ _ (by omega), if_pos (by omega)]; unfold ftH; rw [show (8 * i + n) / 8 = i by omega, show (8 * i + n) % 8 = n by omega]
    have f1 := fil_len (ftH l c) 64
    rw [impl_turned.l5, if_pos (by omega), hc j n hj hn, Option.bind_some, ix8 i n hi hn, if_pos (by omega), if_pos (by omega), rd_getD, e, w_add_l, w_mul_r, w_add_r, wsucc (by omega), sm_succ]
  · refine To.step fun k => ?_
    rw [impl_turned.l5, if_neg (by omega), implRound_eq, Option.bind_some, ix8 i j hi hj, if_pos (by omega), if_pos (by omega), wsucc (by omega), Int.toNat_natCast]; rfl
theorem ft4 (l w : List Int) (c : Nat → Nat → Int) (hl : l.length = 64) (hc : ∀ i k : Nat, i < 8 → k < 8 → impl_Forward_c1.f (i : Int) (k : Int) w = some (c i k)) (i : Nat) (hi : i < 8) :
    To (fun k => impl_turned.l4 k w (fil (ftH l c) 64) (fil (ftR l c) (8 * i)) (i : Int) (i : Int) 0) (fun k => impl_turned.l3 k w (fil (ftH l c) 64) (fil (ftR l c) (8 * (i + 1))) ((i + 1 : Nat) : Int)) := by
  refine To.loop (fun j k => impl_turned.l4 k w (fil (ftH l c) 64) (fil (ftR l c) (8 * i + j)) (i : Int) (i : Int) (j : Int)) 8 _ ?_ ?_
  · intro j hj
    refine To.trans (To.step (g := fun k => impl_turned.l5 k w (fil (ftH l c) 64) (fil (ftR l c) (8 * i + j)) (i : Int) (j : Int) 0 (i : Int) (j : Int) 0) fun k => ?_) ?_
    · rw [impl_turned.l4, if_pos (by omega)]
    · have h := ft5 l w (fil (ftR l c) (8 * i + j)) c hl hc i j hi hj (fil_len _ _)
      have e : ftO l c i j = ftR l c (8 * i + j) := by unfold ftR; rw [show (8 * i + j) / 8 = i by omega, show (8 * i + j) % 8 = j by omega]
      rw [e, fil_set _ _ (by omega)] at h
      exact h
  · refine To.step fun k => ?_
    rw [impl_turned.l4, if_neg (by omega), wsucc (by omega)]; rfl
theorem fturned_to (l w : List Int) (c : Nat → Nat → Int) (hl : l.length = 64) (hc : ∀ i k : Nat, i < 8 → k < 8 → impl_Forward_c1.f (i : Int) (k : Int) w = some (c i k)) :
    To (fun k => impl_turned.f k l w) (fun _ => some ((List.range 64).map (ftR l c))) := by
  have a : To (fun k => impl_turned.l0 k l w (fil (ftH l c) (8 * 0)) (List.replicate 64 0) ((0 : Nat) : Int)) (fun k => impl_turned.l3 k w (fil (ftH l c) 64) (List.replicate 64 0) 0) := by
    refine To.loop (fun i k => impl_turned.l0 k l w (fil (ftH l c) (8 * i)) (List.replicate 64 0) (i : Int)) 8 _ ?_ ?_
    · intro i hi
      refine To.trans (To.step (g := fun k => impl_turned.l1 k l w (fil (ftH l c) (8 * i)) (List.replicate 64 0) (i : Int) (i : Int) 0) fun k => ?_) (ft1 l w _ c hl hc i hi)
      rw [impl_turned.l0, if_pos (by omega)]
    · refine To.step fun k => ?_
      rw [impl_turned.l0, if_neg (by omega)]
  have b : To (fun k => impl_turned.l3 k w (fil (ftH l c) 64) (fil (ftR l c) (8 * 0)) ((0 : Nat) : Int)) (fun _ => some (fil (ftR l c) 64)) := by
    refine To.loop (fun i k => impl_turned.l3 k w (fil (ftH l c) 64) (fil (ftR l c) (8 * i)) (i : Int)) 8 _ ?_ ?_
    · intro i hi
      refine To.trans (To.step (g := fun k => impl_turned.l4 k w (fil (ftH l c) 64) (fil (ftR l c) (8 * i)) (i : Int) (i : Int) 0) fun k => ?_) (ft4 l w c hl hc i hi)
      rw [impl_turned.l3, if_pos (by omega)]
    · refine To.step fun k => ?_
      rw [impl_turned.l3, if_neg (by omega)]
  rw [Nat.mul_zero, fil_zero] at a b
  rw [fil_all] at b
  refine To.trans (To.eq (g := fun k => impl_turned.l0 k l w (List.replicate 64 0) (List.replicate 64 0) ((0 : Nat) : Int)) fun k => ?_) (a.trans b)
  unfold impl_turned.f
  rw [if_pos (by omega)]; rfl

theorem between_eq (a lo hi : Int) : spec_l01Between.f a lo hi = some (decide (lo ≤ a ∧ a ≤ hi)) := by
  unfold spec_l01Between.f
  by_cases h : a ≥ lo
  · rw [if_pos h]; congr 1; simp; omega
  · rw [if_neg h]; congr 1; simp; omega

theorem nums5_loop (l : List Int) (lo hi : Int) (hl : l.length = 64) : ∀ (d k i : Nat), i + d = 64 → d < k → spec_l05Nums.l0 k l lo hi (i : Int) = some (inR lo hi (l.drop i)) := by
  intro d
  induction d with
  | zero =>
    intro k i h1 hk
    obtain ⟨k, rfl⟩ : ∃ m, k = m + 1 := ⟨k - 1, by omega⟩
    rw [spec_l05Nums.l0, if_neg (by omega), List.drop_eq_nil_of_le (by omega), inR_nil]
  | succ d ih =>
    intro k i h1 hk
    obtain ⟨k, rfl⟩ : ∃ m, k = m + 1 := ⟨k - 1, by omega⟩
    rw [spec_l05Nums.l0, if_pos (by omega), if_pos (by omega), if_pos (by omega), between_eq, rd_nat l i (by omega), wsucc (by omega), ih k (i + 1) (by omega) (by omega), drop_at l i (by omega), inR_cons]
    simp only [Option.bind_some]
    by_cases h : lo ≤ l[i] ∧ l[i] ≤ hi <;> simp [h]
theorem nums5_eq (l : List Int) (lo hi : Int) (k : Nat) (hk : 64 < k) : spec_l05Nums.f k l lo hi = some (decide (l.length = 64) && inR lo hi l) := by
  unfold spec_l05Nums.f
  by_cases h : l.length = 64
  · have e : spec_l05Nums.l0 k l lo hi 0 = some (inR lo hi (l.drop 0)) := nums5_loop l lo hi h 64 k 0 (by omega) hk
    rw [if_pos (by omega), e]; simp [h]
  · rw [if_neg (by omega)]; simp [h]

theorem within_eq (a lo hi : Int) : impl_within.f a lo hi = some (decide (lo ≤ a ∧ a ≤ hi)) := by
  unfold impl_within.f
  by_cases h : a ≥ lo
  · rw [if_pos h]; congr 1; simp; omega
  · rw [if_neg h]; congr 1; simp; omega

theorem allWithin_loop (l : List Int) (lo hi : Int) (hl : l.length ≤ 4611686018427387904) : ∀ (d k i : Nat), i + d = l.length → d < k → impl_allWithin.l0 k lo hi l (l.length : Int) (i : Int) = some (inR lo hi (l.drop i)) := by
  intro d
  induction d with
  | zero =>
    intro k i h1 hk
    obtain ⟨k, rfl⟩ : ∃ m, k = m + 1 := ⟨k - 1, by omega⟩
    rw [impl_allWithin.l0, if_neg (by omega), List.drop_eq_nil_of_le (by omega), inR_nil]
  | succ d ih =>
    intro k i h1 hk
    obtain ⟨k, rfl⟩ : ∃ m, k = m + 1 := ⟨k - 1, by omega⟩
    rw [impl_allWithin.l0, if_pos (by omega), if_pos (by omega), if_pos (by omega), within_eq, rd_nat l i (by omega), wsucc (by omega), ih k (i + 1) (by omega) (by omega), drop_at l i (by omega), inR_cons]
    simp only [Option.bind_some]
    by_cases h : lo ≤ l[i] ∧ l[i] ≤ hi <;> simp [h]
theorem allWithin_eq (l : List Int) (lo hi : Int) (hl : l.length ≤ 4611686018427387904) (k : Nat) (hk : l.length < k) : impl_allWithin.f k l lo hi = some (inR lo hi l) := by
  unfold impl_allWithin.f
  exact allWithin_loop l lo hi hl l.length k 0 (by omega) hk

def okL (lo hi : Int) (l : List Int) : Bool := decide (l.length = 64) && inR lo hi l
theorem okL_iff {lo hi : Int} {l : List Int} : okL lo hi l = true ↔ l.length = 64 ∧ inR lo hi l = true := by simp [okL]

def cF (i k : Nat) : Int := bas.getD (8 * i + k) 0
theorem cF_eq (i k : Nat) (hi : i < 8) (hk : k < 8) : impl_Forward_c1.f (i : Int) (k : Int) bas = some (cF i k) := by
  have h := bas_len
  unfold impl_Forward_c1.f
  rw [ix8 i k hi hk, if_pos (by omega), if_pos (by omega), rd_getD]; rfl
theorem fwd_same (l : List Int) (u v : Nat) : ftO l cF u v = fpO l bas u v := by
  unfold ftO fpO fpS
  congr 2
  rw [sm_swap]
  refine sm_congr _ _ _ fun k _ => ?_
  unfold ftT
  rw [sm_mul]
  refine sm_congr _ _ _ fun y _ => ?_
  unfold fpW cF
  rw [Int.mul_comm (bas.getD (8 * u + y) 0), Int.mul_comm]
def fwdR (l : List Int) : List Int := if okL (-2048) 2047 l then (List.range 64).map (fpR l bas) else []
theorem fwdR_len (l : List Int) : (fwdR l).length ≤ 64 := by unfold fwdR; split <;> simp
theorem specSamples_eq (l : List Int) (k : Nat) (hk : 64 < k) : spec_SamplesOk.f k l = some (okL (-2048) 2047 l) := by
  unfold spec_SamplesOk.f; rw [nums5_eq l _ _ k hk]; rfl
theorem implSamples_eq (l : List Int) (k : Nat) (hk : 64 < k) : impl_SamplesOk.f k l = some (okL (-2048) 2047 l) := by
  unfold impl_SamplesOk.f okL
  by_cases h : l.length = 64
  · rw [if_pos (by omega), allWithin_eq l _ _ (by omega) k (by omega)]; simp [h]
  · rw [if_neg (by omega)]; simp [h]
theorem specFwd_ev (l : List Int) : ∃ K : Nat, ∀ k : Nat, K ≤ k → spec_Forward.f k l = some (fwdR l) := by
  by_cases h : okL (-2048) 2047 l = true
  · obtain ⟨K, hK⟩ := (fp0 l bas (okL_iff.1 h).1 bas_len).ends
    refine ⟨K + 100, fun k hk => ?_⟩
    unfold spec_Forward.f fwdR
    rw [Option.bind_some, specSamples_eq l k (by omega), Option.bind_some, if_pos h, specBasis_eq k (by omega), Option.bind_some, hK k (by omega), if_pos h]
  · refine ⟨100, fun k hk => ?_⟩
    unfold spec_Forward.f fwdR
    rw [Option.bind_some, specSamples_eq l k (by omega), Option.bind_some, if_neg h, if_neg h]
theorem implFwd_ev (l : List Int) : ∃ K : Nat, ∀ k : Nat, K ≤ k → impl_Forward.f k l = some (fwdR l) := by
  by_cases h : okL (-2048) 2047 l = true
  · obtain ⟨K, hK⟩ := (fturned_to l bas cF (okL_iff.1 h).1 (fun i k hi hk => cF_eq i k hi hk)).ends
    refine ⟨K + 100, fun k hk => ?_⟩
    have e : (List.range 64).map (ftR l cF) = (List.range 64).map (fpR l bas) := List.map_congr_left fun q _ => fwd_same l (q / 8) (q % 8)
    unfold impl_Forward.f fwdR
    rw [implSamples_eq l k (by omega), Option.bind_some, if_pos h, implBasis_eq k (by omega), Option.bind_some, hK k (by omega), Option.bind_some, if_pos h, e]
  · refine ⟨100, fun k hk => ?_⟩
    unfold impl_Forward.f fwdR
    rw [implSamples_eq l k (by omega), Option.bind_some, if_neg h, if_neg h]

def clp (a : Int) : Int := mn 2047 (mx (-2048) a)
theorem clp_eq (a : Int) : spec_l05Clip.f a (-2048) 2047 = some (clp a) := by
  unfold spec_l05Clip.f clp mn mx
  (repeat' split) <;> first | rfl | (congr 1; omega) | omega

def ipW (l w : List Int) (u v y x : Nat) : Int := l.getD (8 * y + x) 0 * w.getD (8 * y + u) 0 * w.getD (8 * x + v) 0
def ipS (l w : List Int) (u v : Nat) : Int := sm 8 fun y => sm 8 fun x => ipW l w u v y x
def ipO (l w : List Int) (u v : Nat) : Int := clp (rnd (wrap64 (ipS l w u v)))
def ipR (l w : List Int) (q : Nat) : Int := ipO l w (q / 8) (q % 8)
theorem ip3 (l w a : List Int) (hl : l.length = 64) (hw : w.length = 64) (u v y : Nat) (hu : u < 8) (hv : v < 8) (hy : y < 8) (s : Int) :
    To (fun k => spec_Inverse.l3 k l a w (u : Int) (v : Int) (wrap64 s) (y : Int) 0) (fun k => spec_Inverse.l2 k l a w (u : Int) (v : Int) (wrap64 (s + sm 8 fun x => ipW l w u v y x)) ((y + 1 : Nat) : Int)) := by
  have key := To.loop (fun n k => spec_Inverse.l3 k l a w (u : Int) (v : Int) (wrap64 (s + sm n fun x => ipW l w u v y x)) (y : Int) (n : Int)) 8 (fun k => spec_Inverse.l2 k l a w (u : Int) (v : Int) (wrap64 (s + sm 8 fun x => ipW l w u v y x)) ((y + 1 : Nat) : Int)) ?_ ?_
  · rw [sm_zero, Int.add_zero] at key; exact key
  · intro n hn
    refine To.step fun k => ?_
    rw [spec_Inverse.l3, if_pos (by omega), ix8 y n hy hn, ix8 y u hy hu, ix8 n v hn hv, if_pos (by omega), if_pos (by omega), if_pos (by omega), if_pos (by omega), if_pos (by omega), if_pos (by omega), rd_getD, rd_getD, rd_getD, w_mul_l, w_add_l, w_add_r, wsucc (by omega), sm_succ, Int.add_assoc]; rfl
  · refine To.step fun k => ?_
    rw [spec_Inverse.l3, if_neg (by omega), wsucc (by omega)]
theorem ip2 (l w a : List Int) (hl : l.length = 64) (hw : w.length = 64) (ha : a.length ≤ 64) (u v : Nat) (hu : u < 8) (hv : v < 8) :
    To (fun k => spec_Inverse.l2 k l a w (u : Int) (v : Int) 0 0) (fun k => spec_Inverse.l1 k l (a ++ [ipO l w u v]) w (u : Int) ((v + 1 : Nat) : Int)) := by
  have key := To.loop (fun n k => spec_Inverse.l2 k l a w (u : Int) (v : Int) (wrap64 (sm n fun y => sm 8 fun x => ipW l w u v y x)) (n : Int)) 8 (fun k => spec_Inverse.l1 k l (a ++ [ipO l w u v]) w (u : Int) ((v + 1 : Nat) : Int)) ?_ ?_
  · rw [sm_zero, w_zero] at key; exact key
  · intro n hn
    refine To.trans (To.step (g := fun k => spec_Inverse.l3 k l a w (u : Int) (v : Int) (wrap64 (sm n fun y => sm 8 fun x => ipW l w u v y x)) (n : Int) 0) fun k => ?_) (ip3 l w a hl hw u v n hu hv hn _)
    rw [spec_Inverse.l2, if_pos (by omega)]
  · refine To.step fun k => ?_
    rw [spec_Inverse.l2, if_neg (by omega), specRound_eq, Option.bind_some, clp_eq, Option.bind_some, if_pos (by omega), wsucc (by omega)]; rfl
theorem ip1 (l w : List Int) (hl : l.length = 64) (hw : w.length = 64) (u : Nat) (hu : u < 8) :
    To (fun k => spec_Inverse.l1 k l ((List.range (8 * u)).map (ipR l w)) w (u : Int) 0) (fun k => spec_Inverse.l0 k l ((List.range (8 * (u + 1))).map (ipR l w)) w ((u + 1 : Nat) : Int)) := by
  refine To.loop (fun v k => spec_Inverse.l1 k l ((List.range (8 * u + v)).map (ipR l w)) w (u : Int) (v : Int)) 8 _ ?_ ?_
  · intro v hv
    refine To.trans (To.step (g := fun k => spec_Inverse.l2 k l ((List.range (8 * u + v)).map (ipR l w)) w (u : Int) (v : Int) 0 0) fun k => ?_) ?_
    · rw [spec_Inverse.l1, if_pos (by omega)]
    · have h := ip2 l w ((List.range (8 * u + v)).map (ipR l w)) hl hw (by simp; omega) u v hu hv
      have e : ipO l w u v = ipR l w (8 * u + v) := by unfold ipR; rw [show (8 * u + v) / 8 = u by omega, show (8 * u + v) % 8 = v by omega]
      have e2 : (List.range (8 * u + v)).map (ipR l w) ++ [ipR l w (8 * u + v)] = (List.range (8 * u + (v + 1))).map (ipR l w) := by rw [← Nat.add_assoc, List.range_succ, List.map_append]; rfl
      rw [e, e2] at h
      exact h
  · refine To.step fun k => ?_
    rw [spec_Inverse.l1, if_neg (by omega), wsucc (by omega)]; rfl
theorem ip0 (l w : List Int) (hl : l.length = 64) (hw : w.length = 64) : To (fun k => spec_Inverse.l0 k l [] w 0) (fun _ => some ((List.range 64).map (ipR l w))) := by
  refine To.loop (fun u k => spec_Inverse.l0 k l ((List.range (8 * u)).map (ipR l w)) w (u : Int)) 8 _ ?_ ?_
  · intro u hu
    refine To.trans (To.step (g := fun k => spec_Inverse.l1 k l ((List.range (8 * u)).map (ipR l w)) w (u : Int) 0) fun k => ?_) (ip1 l w hl hw u hu)
    rw [spec_Inverse.l0, if_pos (by omega)]
  · refine To.step fun k => ?_
    rw [spec_Inverse.l0, if_neg (by omega)]

def itT (l : List Int) (c : Nat → Nat → Int) (i x : Nat) : Int := sm 8 fun k => c i k * l.getD (8 * k + x) 0
def itH (l : List Int) (c : Nat → Nat → Int) (q : Nat) : Int := wrap64 (itT l c (q / 8) (q % 8))
def itO (l : List Int) (c : Nat → Nat → Int) (i j : Nat) : Int := rnd (wrap64 (sm 8 fun k => c j k * itT l c i k))
def itR (l : List Int) (c : Nat → Nat → Int) (q : Nat) : Int := itO l c (q / 8) (q % 8)
theorem it2 (l w h o : List Int) (c : Nat → Nat → Int) (hl : l.length = 64) (hc : ∀ i k : Nat, i < 8 → k < 8 → impl_Inverse_c1.f (i : Int) (k : Int) w = some (c i k)) (i x : Nat) (hi : i < 8) (hx : x < 8) (hh : h.length = 64) (h0 : h.getD (8 * i + x) 0 = 0) :
    To (fun k => impl_turned2.l2 k l w h o (i : Int) (x : Int) (i : Int) (x : Int) 0) (fun k => impl_turned2.l1 k l w (h.set (8 * i + x) (wrap64 (itT l c i x))) o (i : Int) (i : Int) ((x + 1 : Nat) : Int)) := by
  have hs : h.set (8 * i + x) (wrap64 (sm 0 fun k => c i k * l.getD (8 * k + x) 0)) = h := by
    apply List.ext_getElem
    · rw [List.length_set]
    · intro q h1 h2
      rw [List.getElem_set]
      split
      · rename_i e; subst e
        rw [sm_zero, w_zero, ← h0, List.getD_eq_getElem?_getD, List.getElem?_eq_getElem h2]; rfl
      · rfl
  have key := To.loop (fun n k => impl_turned2.l2 k l w (h.set (8 * i + x) (wrap64 (sm n fun k => c i k * l.getD (8 * k + x) 0))) o (i : Int) (x : Int) (i : Int) (x : Int) (n : Int)) 8 (fun k => impl_turned2.l1 k l w (h.set (8 * i + x) (wrap64 (itT l c i x))) o (i : Int) (i : Int) ((x + 1 : Nat) : Int)) ?_ ?_
  · rw [hs] at key; exact key
  · intro n hn
    refine To.step fun k => ?_
    rw [impl_turned2.l2, if_pos (by omega), ix8 i x hi hx, if_pos (by omega), if_pos (by rw [List.length_set]; omega), hc i n hi hn, Option.bind_some, ix8 n x hn hx, if_pos (by omega), if_pos (by omega), rd_getD l, rd_set _ _ _ (by omega), w_add_l, w_add_r, wsucc (by omega), Int.toNat_natCast, List.set_set, sm_succ]
  · refine To.step fun k => ?_
    rw [impl_turned2.l2, if_neg (by omega), wsucc (by omega)]; rfl
theorem it1 (l w o : List Int) (c : Nat → Nat → Int) (hl : l.length = 64) (hc : ∀ i k : Nat, i < 8 → k < 8 → impl_Inverse_c1.f (i : Int) (k : Int) w = some (c i k)) (i : Nat) (hi : i < 8) :
    To (fun k => impl_turned2.l1 k l w (fil (itH l c) (8 * i)) o (i : Int) (i : Int) 0) (fun k => impl_turned2.l0 k l w (fil (itH l c) (8 * (i + 1))) o ((i + 1 : Nat) : Int)) := by
  refine To.loop (fun x k => impl_turned2.l1 k l w (fil (itH l c) (8 * i + x)) o (i : Int) (i : Int) (x : Int)) 8 _ ?_ ?_
  · intro x hx
    refine To.trans (To.step (g := fun k => impl_turned2.l2 k l w (fil (itH l c) (8 * i + x)) o (i : Int) (x : Int) (i : Int) (x : Int) 0) fun k => ?_) ?_
    · rw [impl_turned2.l1, if_pos (by omega)]
    · have h := it2 l w (fil (itH l c) (8 * i + x)) o c hl hc i x hi hx (fil_len _ _) (by rw [fil_getD _ _ _ (by omega), if_neg (by omega)])
      have e : wrap64 (itT l c i x) = itH l c (8 * i + x) := by unfold itH; rw [show (8 * i + x) / 8 = i by omega, show (8 * i + x) % 8 = x by omega]
      rw [e, fil_set _ _ (by omega)] at h
      exact h
  · refine To.step fun k => ?_
    rw [impl_turned2.l1, if_neg (by omega), wsucc (by omega)]; rfl
theorem it5 (l w o : List Int) (c : Nat → Nat → Int) (hl : l.length = 64) (hc : ∀ i k : Nat, i < 8 → k < 8 → impl_Inverse_c1.f (i : Int) (k : Int) w = some (c i k)) (i j : Nat) (hi : i < 8) (hj : j < 8) (ho : o.length = 64) :
    To (fun k => impl_turned2.l5 k w (fil (itH l c) 64) o (i : Int) (j : Int) 0 (i : Int) (j : Int) 0) (fun k => impl_turned2.l4 k w (fil (itH l c) 64) (o.set (8 * i + j) (itO l c i j)) (i : Int) (i : Int) ((j + 1 : Nat) : Int)) := by
  have key := To.loop (fun n k => impl_turned2.l5 k w (fil (itH l c) 64) o (i : Int) (j : Int) (wrap64 (sm n fun k => c j k * itT l c i k)) (i : Int) (j : Int) (n : Int)) 8 (fun k => impl_turned2.l4 k w (fil (itH l c) 64) (o.set (8 * i + j) (itO l c i j)) (i : Int) (i : Int) ((j + 1 : Nat) : Int)) ?_ ?_
  · rw [sm_zero, w_zero] at key; exact key
  · intro n hn
    refine To.step fun k => ?_
    have e : (fil (itH l c) 64).getD (8 * i + n) 0 = wrap64 (itT l c i n) := by
      rw [fil_getD _ _ _ (by omega), if_pos (by omega)]; unfold itH; rw [show (8 * i + n) / 8 = i by omega, show (8 * i + n) % 8 = n by omega]
    have f1 := fil_len (itH l c) 64
    rw [impl_turned2.l5, if_pos (by omega), hc j n hj hn, Option.bind_some, ix8 i n hi hn, if_pos (by omega), if_pos (by omega), rd_getD, e, w_add_l, w_mul_r, w_add_r, wsucc (by omega), sm_succ]
  · refine To.step fun k => ?_
    rw [impl_turned2.l5, if_neg (by omega), implRound_eq, Option.bind_some, ix8 i j hi hj, if_pos (by omega), if_pos (by omega), wsucc (by omega), Int.toNat_natCast]; rfl
theorem it4 (l w : List Int) (c : Nat → Nat → Int) (hl : l.length = 64) (hc : ∀ i k : Nat, i < 8 → k < 8 → impl_Inverse_c1.f (i : Int) (k : Int) w = some (c i k)) (i : Nat) (hi : i < 8) :
    To (fun k => impl_turned2.l4 k w (fil (itH l c) 64) (fil (itR l c) (8 * i)) (i : Int) (i : Int) 0) (fun k => impl_turned2.l3 k w (fil (itH l c) 64) (fil (itR l c) (8 * (i + 1))) ((i + 1 : Nat) : Int)) := by
  refine To.loop (fun j k => impl_turned2.l4 k w (fil (itH l c) 64) (fil (itR l c) (8 * i + j)) (i : Int) (i : Int) (j : Int)) 8 _ ?_ ?_
  · intro j hj
    refine To.trans (To.step (g := fun k => impl_turned2.l5 k w (fil (itH l c) 64) (fil (itR l c) (8 * i + j)) (i : Int) (j : Int) 0 (i : Int) (j : Int) 0) fun k => ?_) ?_
    · rw [impl_turned2.l4, if_pos (by omega)]
    · have h := it5 l w (fil (itR l c) (8 * i + j)) c hl hc i j hi hj (fil_len _ _)
      have e : itO l c i j = itR l c (8 * i + j) := by unfold itR; rw [show (8 * i + j) / 8 = i by omega, show (8 * i + j) % 8 = j by omega]
      rw [e, fil_set _ _ (by omega)] at h
      exact h
  · refine To.step fun k => ?_
    rw [impl_turned2.l4, if_neg (by omega), wsucc (by omega)]; rfl
theorem iturned_to (l w : List Int) (c : Nat → Nat → Int) (hl : l.length = 64) (hc : ∀ i k : Nat, i < 8 → k < 8 → impl_Inverse_c1.f (i : Int) (k : Int) w = some (c i k)) :
    To (fun k => impl_turned2.f k l w) (fun _ => some ((List.range 64).map (itR l c))) := by
  have a : To (fun k => impl_turned2.l0 k l w (fil (itH l c) (8 * 0)) (List.replicate 64 0) ((0 : Nat) : Int)) (fun k => impl_turned2.l3 k w (fil (itH l c) 64) (List.replicate 64 0) 0) := by
    refine To.loop (fun i k => impl_turned2.l0 k l w (fil (itH l c) (8 * i)) (List.replicate 64 0) (i : Int)) 8 _ ?_ ?_
    · intro i hi
      refine To.trans (To.step (g := fun k => impl_turned2.l1 k l w (fil (itH l c) (8 * i)) (List.replicate 64 0) (i : Int) (i : Int) 0) fun k => ?_) (it1 l w _ c hl hc i hi)
      rw [impl_turned2.l0, if_pos (by omega)]
    · refine To.step fun k => ?_
      rw [impl_turned2.l0, if_neg (by omega)]
  have b : To (fun k => impl_turned2.l3 k w (fil (itH l c) 64) (fil (itR l c) (8 * 0)) ((0 : Nat) : Int)) (fun _ => some (fil (itR l c) 64)) := by
    refine To.loop (fun i k => impl_turned2.l3 k w (fil (itH l c) 64) (fil (itR l c) (8 * i)) (i : Int)) 8 _ ?_ ?_
    · intro i hi
      refine To.trans (To.step (g := fun k => impl_turned2.l4 k w (fil (itH l c) 64) (fil (itR l c) (8 * i)) (i : Int) (i : Int) 0) fun k => ?_) (it4 l w c hl hc i hi)
      rw [impl_turned2.l3, if_pos (by omega)]
    · refine To.step fun k => ?_
      rw [impl_turned2.l3, if_neg (by omega)]
  rw [Nat.mul_zero, fil_zero] at a b
  rw [fil_all] at b
  refine To.trans (To.eq (g := fun k => impl_turned2.l0 k l w (List.replicate 64 0) (List.replicate 64 0) ((0 : Nat) : Int)) fun k => ?_) (a.trans b)
  unfold impl_turned2.f
  rw [if_pos (by omega)]; rfl

theorem implBlockOk_eq (l : List Int) (k : Nat) (hk : 64 < k) : impl_BlockOk.f k l = some (okL (-32767) 32767 l) := by
  unfold impl_BlockOk.f okL
  by_cases h : l.length = 64
  · rw [if_pos (by omega), allWithin_eq l _ _ (by omega) k (by omega)]; simp [h]
  · rw [if_neg (by omega)]; simp [h]

theorem specBlockOk_eq (l : List Int) (k : Nat) (hk : 64 < k) : spec_BlockOk.f k l = some (okL (-32767) 32767 l) := by
  unfold spec_BlockOk.f; rw [nums5_eq l _ _ k hk]; rfl

def cI (i k : Nat) : Int := bas.getD (8 * k + i) 0
theorem cI_eq (i k : Nat) (hi : i < 8) (hk : k < 8) : impl_Inverse_c1.f (i : Int) (k : Int) bas = some (cI i k) := by
  have h := bas_len
  unfold impl_Inverse_c1.f
  rw [ix8 k i hk hi, if_pos (by omega), if_pos (by omega), rd_getD]; rfl
theorem inv_same (l : List Int) (u v : Nat) : clp (itO l cI u v) = ipO l bas u v := by
  unfold itO ipO ipS
  congr 3
  rw [sm_swap]
  refine sm_congr _ _ _ fun k _ => ?_
  unfold itT
  rw [sm_mul]
  refine sm_congr _ _ _ fun y _ => ?_
  unfold ipW cI
  rw [Int.mul_comm (bas.getD (8 * y + u) 0), Int.mul_comm]
def invR (l : List Int) : List Int := if okL (-32767) 32767 l then (List.range 64).map (ipR l bas) else []
theorem invR_len (l : List Int) : (invR l).length ≤ 64 := by unfold invR; split <;> simp
theorem specInv_ev (l : List Int) : ∃ K : Nat, ∀ k : Nat, K ≤ k → spec_Inverse.f k l = some (invR l) := by
  by_cases h : okL (-32767) 32767 l = true
  · obtain ⟨K, hK⟩ := (ip0 l bas (okL_iff.1 h).1 bas_len).ends
    refine ⟨K + 100, fun k hk => ?_⟩
    unfold spec_Inverse.f invR
    rw [Option.bind_some, specBlockOk_eq l k (by omega), Option.bind_some, if_pos h, specBasis_eq k (by omega), Option.bind_some, hK k (by omega), if_pos h]
  · refine ⟨100, fun k hk => ?_⟩
    unfold spec_Inverse.f invR
    rw [Option.bind_some, specBlockOk_eq l k (by omega), Option.bind_some, if_neg h, if_neg h]
/-- The last loop: each place is cut to the bounds. -/
def clipTo (l : List Int) (n : Nat) : List Int := (l.take n).map clp ++ l.drop n
theorem clipTo_len (l : List Int) (n : Nat) (hn : n ≤ l.length) : (clipTo l n).length = l.length := by simp [clipTo]; omega
theorem clipTo_step (l : List Int) (n : Nat) (hn : n < l.length) : (clipTo l n).set n (clp ((clipTo l n).getD n 0)) = clipTo l (n + 1) := by
  have e1 : ((l.take n).map clp).length = n := by simp; omega
  have e2 : (clipTo l n).getD n 0 = l[n] := by
    unfold clipTo
    rw [List.getD_eq_getElem?_getD, List.getElem?_append_right (by omega), e1, Nat.sub_self, drop_at l n hn]; rfl
  rw [e2]
  unfold clipTo
  rw [List.set_append, if_neg (by rw [e1]; omega), e1, Nat.sub_self, drop_at l n hn, List.set_cons_zero, List.take_succ_eq_append_getElem hn, List.map_append, List.append_assoc]; rfl
theorem implInv_loop (l : List Int) (hl : l.length = 64) (k : Nat) (hk : 64 < k) : impl_Inverse.l0 k l (l.length : Int) 0 = some (l.map clp) := by
  have h := state_loop (fun k s i => impl_Inverse.l0 k s (l.length : Int) i) (clipTo l) 64 (l.map clp) ?_ ?_ k hk
  · rw [show clipTo l 0 = l by simp [clipTo]] at h; exact h
  · intro k i hi
    have hc := clipTo_len l i (by omega)
    show impl_Inverse.l0 (k + 1) (clipTo l i) _ (i : Int) = _
    rw [impl_Inverse.l0, if_pos (by omega), if_pos (by omega), if_pos (by omega), rd_getD, wsucc (by omega), Int.toNat_natCast]
    show impl_Inverse.l0 k ((clipTo l i).set i (clp ((clipTo l i).getD i 0))) _ _ = _
    rw [clipTo_step l i (by omega)]
  · intro k
    show impl_Inverse.l0 (k + 1) (clipTo l 64) _ _ = _
    rw [impl_Inverse.l0, if_neg (by omega)]
    rw [show clipTo l 64 = l.map clp by unfold clipTo; rw [List.take_of_length_le (by omega), List.drop_eq_nil_of_le (by omega), List.append_nil]]
theorem implInv_ev (l : List Int) : ∃ K : Nat, ∀ k : Nat, K ≤ k → impl_Inverse.f k l = some (invR l) := by
  by_cases h : okL (-32767) 32767 l = true
  · obtain ⟨K, hK⟩ := (iturned_to l bas cI (okL_iff.1 h).1 (fun i k hi hk => cI_eq i k hi hk)).ends
    refine ⟨K + 100, fun k hk => ?_⟩
    have e : ((List.range 64).map (itR l cI)).map clp = (List.range 64).map (ipR l bas) := by
      rw [List.map_map]
      exact List.map_congr_left fun q _ => inv_same l (q / 8) (q % 8)
    unfold impl_Inverse.f invR
    rw [implBlockOk_eq l k (by omega), Option.bind_some, if_pos h, implBasis_eq k (by omega), Option.bind_some, hK k (by omega), Option.bind_some, if_pos h, implInv_loop _ (by simp) k (by omega), e]
  · refine ⟨100, fun k hk => ?_⟩
    unfold impl_Inverse.f invR
    rw [implBlockOk_eq l k (by omega), Option.bind_some, if_neg h, if_neg h]

theorem rnd_bd (a : Int) (h1 : -1152921504606846976 ≤ a) (h2 : a ≤ 1152921504606846976) : 33554432 * rnd a ≤ 2 * a + 16777216 ∧ 2 * a + 16777216 < 33554432 * rnd a + 33554432 := by
  have e : impl_rounded.f a 16777216 = some ((2 * a + 16777216) / 33554432) := by
    unfold impl_rounded.f impl_below.f
    rw [show wrap64 (2 * 16777216) = 33554432 by decide +kernel, w64 (x := 2 * a) (by omega) (by omega), w64 (x := 2 * a + 16777216) (by omega) (by omega)]
    by_cases h : 2 * a + 16777216 < 0
    · rw [if_pos h, if_neg (by omega), w64 (x := -(2 * a + 16777216)) (by omega) (by omega), w64 (x := -(2 * a + 16777216) + 33554432) (by omega) (by omega), w64 (x := -(2 * a + 16777216) + 33554432 - 1) (by omega) (by omega), tdw (by omega) (by omega) (by omega)]
      have hd := div_bd (x := -(2 * a + 16777216) + 33554432 - 1) (y := 33554432) (by omega) (by omega)
      rw [w64 (by omega) (by omega), Option.bind_some]
      congr 1; omega
    · rw [if_neg h, if_neg (by omega), tdw (by omega) (by omega) (by omega), Option.bind_some]
  have e2 : rnd a = (2 * a + 16777216) / 33554432 := by unfold rnd; rw [e]; rfl
  rw [e2]; omega
def ab (x : Int) : Int := if x < 0 then -x else x
theorem ab_bd (x : Int) : 0 ≤ ab x ∧ -ab x ≤ x ∧ x ≤ ab x := by unfold ab; split <;> omega
theorem mul_ab (b m M : Int) (hb : -M ≤ b ∧ b ≤ M) : -(M * ab m) ≤ b * m ∧ b * m ≤ M * ab m := by
  unfold ab
  split
  · rename_i h
    have h1 : b * (-m) ≤ M * (-m) := Int.mul_le_mul_of_nonneg_right hb.2 (by omega)
    have h2 : (-M) * (-m) ≤ b * (-m) := Int.mul_le_mul_of_nonneg_right hb.1 (by omega)
    simp only [Int.mul_neg, Int.neg_mul, Int.neg_neg] at h1 h2 ⊢
    omega
  · rename_i h
    have h1 : b * m ≤ M * m := Int.mul_le_mul_of_nonneg_right hb.2 (by omega)
    have h2 : (-M) * m ≤ b * m := Int.mul_le_mul_of_nonneg_right hb.1 (by omega)
    rw [Int.neg_mul] at h2
    omega
theorem sm_bd (n : Nat) (f g : Nat → Int) (h : ∀ i, i < n → -g i ≤ f i ∧ f i ≤ g i) : -sm n g ≤ sm n f ∧ sm n f ≤ sm n g := by
  induction n with
  | zero => exact ⟨by rw [sm_zero, sm_zero]; omega, by rw [sm_zero, sm_zero]; omega⟩
  | succ n ih =>
    have a := ih (fun i hi => h i (by omega))
    have b := h n (by omega)
    rw [sm_succ, sm_succ]; omega
theorem sm_mulr (n : Nat) (c : Int) (f : Nat → Int) : sm n f * c = sm n (fun i => f i * c) := by
  rw [Int.mul_comm, sm_mul]; exact sm_congr _ _ _ fun i _ => Int.mul_comm _ _
theorem sm_sub (n : Nat) (f g : Nat → Int) : sm n (fun i => f i - g i) = sm n f - sm n g := by
  induction n with
  | zero => rfl
  | succ n ih => rw [sm_succ, sm_succ, sm_succ, ih]; omega
theorem sm_prod (n m : Nat) (b : Int) (p q : Nat → Int) : sm n (fun u => sm m fun v => b * (p u * q v)) = b * (sm n p * sm m q) := by
  have e : ∀ u, sm m (fun v => b * (p u * q v)) = b * (p u * sm m q) := by
    intro u; rw [← sm_mul, ← sm_mul]
  rw [sm_congr _ _ _ (fun u _ => e u), ← sm_mul, ← sm_mulr]
theorem sm2_bd (M : Int) (b m : Nat → Nat → Int) (hb : ∀ i j, i < 8 → j < 8 → -M ≤ b i j ∧ b i j ≤ M) :
    -(M * sm 8 fun i => sm 8 fun j => ab (m i j)) ≤ (sm 8 fun i => sm 8 fun j => b i j * m i j) ∧ (sm 8 fun i => sm 8 fun j => b i j * m i j) ≤ M * sm 8 fun i => sm 8 fun j => ab (m i j) := by
  rw [sm_mul]
  refine sm_bd _ _ _ fun i hi => ?_
  rw [sm_mul]
  exact sm_bd _ _ _ fun j hj => mul_ab _ _ _ (hb i j hi hj)
theorem sm_swap4 (f : Nat → Nat → Nat → Nat → Int) : (sm 8 fun u => sm 8 fun v => sm 8 fun a => sm 8 fun c => f u v a c) = sm 8 fun a => sm 8 fun c => sm 8 fun u => sm 8 fun v => f u v a c := by
  have e1 : (sm 8 fun u => sm 8 fun v => sm 8 fun a => sm 8 fun c => f u v a c) = sm 8 fun u => sm 8 fun a => sm 8 fun v => sm 8 fun c => f u v a c := sm_congr _ _ _ fun u _ => sm_swap _ _ _
  rw [e1, sm_swap]
  refine sm_congr _ _ _ fun a _ => ?_
  have e2 : (sm 8 fun u => sm 8 fun v => sm 8 fun c => f u v a c) = sm 8 fun u => sm 8 fun c => sm 8 fun v => f u v a c := sm_congr _ _ _ fun u _ => sm_swap _ _ _
  rw [e2, sm_swap]
theorem sm_delta (n : Nat) (f : Nat → Int) (y : Nat) (D : Int) (hy : y < n) : sm n (fun a => f a * (if a = y then D else 0)) = f y * D := by
  have key : ∀ n, n ≤ y → sm n (fun a => f a * (if a = y then D else 0)) = 0 := by
    intro n
    induction n with
    | zero => intro _; rfl
    | succ n ih => intro h; rw [sm_succ, ih (by omega), if_neg (by omega), Int.mul_zero]; rfl
  have key2 : ∀ d, sm (y + 1 + d) (fun a => f a * (if a = y then D else 0)) = f y * D := by
    intro d
    induction d with
    | zero => rw [Nat.add_zero, sm_succ, key y (by omega), if_pos rfl]; omega
    | succ d ih => rw [← Nat.add_assoc, sm_succ, ih, if_neg (by omega), Int.mul_zero]; omega
  obtain ⟨d, rfl⟩ : ∃ d, n = y + 1 + d := ⟨n - y - 1, by omega⟩
  exact key2 d
def bB (u y : Nat) : Int := bas.getD (8 * u + y) 0
def gG (a y : Nat) : Int := sm 8 fun u => bB u a * bB u y
def dD (a y : Nat) : Int := if a = y then 16777216 else 0
def gL : List Int := (List.range 64).map fun q => gG (q / 8) (q % 8)
theorem abs_f : ∀ u : Fin 8, ∀ v : Fin 8, (sm 8 fun y => sm 8 fun x => ab (bB u.val y * bB v.val x)) ≤ 134189056 := by decide +kernel
theorem abs_i : ∀ y : Fin 8, ∀ x : Fin 8, (sm 8 fun u => sm 8 fun v => ab (bB u y.val * bB v x.val)) ≤ 117115684 := by decide +kernel
theorem abs_g : ∀ y : Fin 8, ∀ x : Fin 8, (sm 8 fun a => sm 8 fun c => ab (gG a y.val * gG c x.val - dD a y.val * dD c x.val)) ≤ 420795510848 := by decide +kernel
theorem fpS_eq (b : List Int) (u v : Nat) : fpS b bas u v = sm 8 fun y => sm 8 fun x => b.getD (8 * y + x) 0 * (bB u y * bB v x) :=
  sm_congr _ _ _ fun y _ => sm_congr _ _ _ fun x _ => Int.mul_assoc _ _ _
theorem ipS_eq (f : List Int) (y x : Nat) : ipS f bas y x = sm 8 fun u => sm 8 fun v => f.getD (8 * u + v) 0 * (bB u y * bB v x) :=
  sm_congr _ _ _ fun u _ => sm_congr _ _ _ fun v _ => Int.mul_assoc _ _ _
theorem samp (b : List Int) (h : okL (-2048) 2047 b = true) (i : Nat) (hi : i < 64) : -2048 ≤ b.getD i 0 ∧ b.getD i 0 ≤ 2047 := by
  obtain ⟨h1, h2⟩ := okL_iff.1 h
  exact inR_getD h2 i (by omega)
theorem fpS_bd (b : List Int) (h : okL (-2048) 2047 b = true) (u v : Nat) (hu : u < 8) (hv : v < 8) : -274819186688 ≤ fpS b bas u v ∧ fpS b bas u v ≤ 274819186688 := by
  have k := sm2_bd 2048 (fun y x => b.getD (8 * y + x) 0) (fun y x => bB u y * bB v x) (fun i j hi hj => by
    have := samp b h (8 * i + j) (by omega); omega)
  have c := abs_f ⟨u, hu⟩ ⟨v, hv⟩
  rw [← fpS_eq] at k
  have c' : (sm 8 fun y => sm 8 fun x => ab (bB u y * bB v x)) ≤ 134189056 := c
  omega
theorem fwdR_ok (b : List Int) (h : okL (-2048) 2047 b = true) : fwdR b = (List.range 64).map (fpR b bas) := by unfold fwdR; rw [if_pos h]
theorem fwdR_at (b : List Int) (h : okL (-2048) 2047 b = true) (u v : Nat) (hu : u < 8) (hv : v < 8) : (fwdR b).getD (8 * u + v) 0 = rnd (fpS b bas u v) := by
  rw [fwdR_ok b h, List.getD_eq_getElem?_getD, List.getElem?_map, List.getElem?_range (by omega)]
  show fpR b bas (8 * u + v) = _
  have k := fpS_bd b h u v hu hv
  unfold fpR fpO
  rw [show (8 * u + v) / 8 = u by omega, show (8 * u + v) % 8 = v by omega, w64 (by omega) (by omega)]
theorem rnd_fwd (b : List Int) (h : okL (-2048) 2047 b = true) (u v : Nat) (hu : u < 8) (hv : v < 8) : -32767 ≤ rnd (fpS b bas u v) ∧ rnd (fpS b bas u v) ≤ 32767 := by
  have k := fpS_bd b h u v hu hv
  have r := rnd_bd (fpS b bas u v) (by omega) (by omega)
  omega
theorem okMap {lo hi : Int} (f : Nat → Int) (h : ∀ i, i < 64 → lo ≤ f i ∧ f i ≤ hi) : okL lo hi ((List.range 64).map f) = true := by
  rw [okL_iff]
  refine ⟨by simp, ?_⟩
  unfold inR
  rw [List.all_eq_true]
  intro x hx
  obtain ⟨i, hi, rfl⟩ := List.mem_map.1 hx
  simpa using h i (List.mem_range.1 hi)
theorem fwdR_block (b : List Int) (h : okL (-2048) 2047 b = true) : okL (-32767) 32767 (fwdR b) = true := by
  rw [fwdR_ok b h]
  refine okMap _ fun q hq => ?_
  have k := fpS_bd b h (q / 8) (q % 8) (by omega) (by omega)
  have r := rnd_fwd b h (q / 8) (q % 8) (by omega) (by omega)
  unfold fpR fpO
  rw [w64 (by omega) (by omega)]; exact r
theorem sums_swap (b : List Int) (y x : Nat) : (sm 8 fun u => sm 8 fun v => fpS b bas u v * (bB u y * bB v x)) = sm 8 fun a => sm 8 fun c => b.getD (8 * a + c) 0 * (gG a y * gG c x) := by
  have e : ∀ u v : Nat, fpS b bas u v * (bB u y * bB v x) = sm 8 fun a => sm 8 fun c => b.getD (8 * a + c) 0 * ((bB u a * bB u y) * (bB v c * bB v x)) := by
    intro u v
    rw [fpS_eq, sm_mulr]
    refine sm_congr _ _ _ fun a _ => ?_
    rw [sm_mulr]
    refine sm_congr _ _ _ fun c _ => ?_
    rw [Int.mul_assoc]
    congr 1
    rw [Int.mul_assoc, Int.mul_assoc, Int.mul_left_comm (bB v c)]
  rw [sm_congr 8 _ _ fun u _ => sm_congr 8 _ _ fun v _ => e u v, sm_swap4]
  refine sm_congr _ _ _ fun a _ => sm_congr _ _ _ fun c _ => ?_
  exact sm_prod 8 8 _ (fun u => bB u a * bB u y) (fun v => bB v c * bB v x)
theorem delta2 (b : List Int) (y x : Nat) (hy : y < 8) (hx : x < 8) : (sm 8 fun a => sm 8 fun c => b.getD (8 * a + c) 0 * (dD a y * dD c x)) = b.getD (8 * y + x) 0 * 16777216 * 16777216 := by
  have e : ∀ a : Nat, (sm 8 fun c => b.getD (8 * a + c) 0 * (dD a y * dD c x)) = b.getD (8 * a + x) 0 * 16777216 * dD a y := by
    intro a
    rw [sm_congr 8 _ (fun c => (b.getD (8 * a + c) 0 * dD a y) * (if c = x then 16777216 else 0)) (fun c _ => by rw [Int.mul_assoc]; rfl), sm_delta 8 _ x _ hx, Int.mul_assoc, Int.mul_comm (dD a y), ← Int.mul_assoc]
  rw [sm_congr 8 _ _ fun a _ => e a]
  exact sm_delta 8 (fun a => b.getD (8 * a + x) 0 * 16777216) y 16777216 hy
theorem back_bd (b : List Int) (h : okL (-2048) 2047 b = true) (y x : Nat) (hy : y < 8) (hx : x < 8) :
    -(2048 * 420795510848 + 8388608 * 117115684) ≤ 16777216 * ipS (fwdR b) bas y x - b.getD (8 * y + x) 0 * 16777216 * 16777216 ∧ 16777216 * ipS (fwdR b) bas y x - b.getD (8 * y + x) 0 * 16777216 * 16777216 ≤ 2048 * 420795510848 + 8388608 * 117115684 := by
  have eA : 16777216 * ipS (fwdR b) bas y x - (sm 8 fun u => sm 8 fun v => fpS b bas u v * (bB u y * bB v x)) = sm 8 fun u => sm 8 fun v => (16777216 * (fwdR b).getD (8 * u + v) 0 - fpS b bas u v) * (bB u y * bB v x) := by
    rw [ipS_eq, sm_mul, ← sm_sub]
    refine sm_congr _ _ _ fun u _ => ?_
    rw [sm_mul, ← sm_sub]
    refine sm_congr _ _ _ fun v _ => ?_
    rw [Int.sub_mul, Int.mul_assoc]
  have kA := sm2_bd 8388608 (fun u v => 16777216 * (fwdR b).getD (8 * u + v) 0 - fpS b bas u v) (fun u v => bB u y * bB v x) (fun u v hu hv => by
    have k := fpS_bd b h u v hu hv
    have r := rnd_bd (fpS b bas u v) (by omega) (by omega)
    show _ ≤ 16777216 * (fwdR b).getD (8 * u + v) 0 - _ ∧ 16777216 * (fwdR b).getD (8 * u + v) 0 - _ ≤ _
    rw [fwdR_at b h u v hu hv]; omega)
  rw [← eA, sums_swap] at kA
  have eC : (sm 8 fun a => sm 8 fun c => b.getD (8 * a + c) 0 * (gG a y * gG c x)) - b.getD (8 * y + x) 0 * 16777216 * 16777216 = sm 8 fun a => sm 8 fun c => b.getD (8 * a + c) 0 * (gG a y * gG c x - dD a y * dD c x) := by
    rw [← delta2 b y x hy hx, ← sm_sub]
    refine sm_congr _ _ _ fun a _ => ?_
    rw [← sm_sub]
    refine sm_congr _ _ _ fun c _ => ?_
    rw [Int.mul_sub]
  have kC := sm2_bd 2048 (fun a c => b.getD (8 * a + c) 0) (fun a c => gG a y * gG c x - dD a y * dD c x) (fun i j hi hj => by
    have := samp b h (8 * i + j) (by omega); omega)
  rw [← eC] at kC
  have c1 : (sm 8 fun u => sm 8 fun v => ab (bB u y * bB v x)) ≤ 117115684 := abs_i ⟨y, hy⟩ ⟨x, hx⟩
  have c2 : (sm 8 fun a => sm 8 fun c => ab (gG a y * gG c x - dD a y * dD c x)) ≤ 420795510848 := abs_g ⟨y, hy⟩ ⟨x, hx⟩
  omega
theorem back_at (b : List Int) (h : okL (-2048) 2047 b = true) (i : Nat) (hi : i < 64) : -16 ≤ (invR (fwdR b)).getD i 0 - b.getD i 0 ∧ (invR (fwdR b)).getD i 0 - b.getD i 0 ≤ 16 ∧ -2048 ≤ (invR (fwdR b)).getD i 0 ∧ (invR (fwdR b)).getD i 0 ≤ 2047 := by
  have k := back_bd b h (i / 8) (i % 8) (by omega) (by omega)
  have s := samp b h i hi
  rw [show 8 * (i / 8) + i % 8 = i by omega] at k
  have e : (invR (fwdR b)).getD i 0 = clp (rnd (ipS (fwdR b) bas (i / 8) (i % 8))) := by
    unfold invR
    rw [if_pos (fwdR_block b h), List.getD_eq_getElem?_getD, List.getElem?_map, List.getElem?_range hi]
    show ipR (fwdR b) bas i = _
    unfold ipR ipO
    rw [w64 (by omega) (by omega)]
  have r := rnd_bd (ipS (fwdR b) bas (i / 8) (i % 8)) (by omega) (by omega)
  rw [e]
  unfold clp mn mx
  (repeat' split) <;> omega
theorem row_sum : ∀ u : Fin 8, u.val ≠ 0 → (sm 8 fun y => bB u.val y) = 0 := by decide +kernel
theorem flat_at (c : Int) (hc : -2048 ≤ c ∧ c ≤ 2047) (q : Nat) (h0 : 0 < q) (hq : q < 64) : (fwdR ((List.range 64).map fun _ => c)).getD q 0 = 0 := by
  have h : okL (-2048) 2047 ((List.range 64).map fun _ => c) = true := okMap _ fun _ _ => hc
  have e := fwdR_at _ h (q / 8) (q % 8) (by omega) (by omega)
  rw [show 8 * (q / 8) + q % 8 = q by omega] at e
  rw [e]
  have z : fpS ((List.range 64).map fun _ => c) bas (q / 8) (q % 8) = 0 := by
    rw [fpS_eq]
    have g : ∀ y x : Nat, y < 8 → x < 8 → ((List.range 64).map fun _ => c).getD (8 * y + x) 0 = c := by
      intro y x hy hx
      rw [List.getD_eq_getElem?_getD, List.getElem?_map, List.getElem?_range (by omega)]; rfl
    rw [sm_congr 8 _ _ fun y hy => sm_congr 8 _ (fun x => c * (bB (q / 8) y * bB (q % 8) x)) fun x hx => by rw [g y x hy hx], sm_prod]
    by_cases hu : q / 8 = 0
    · have := row_sum ⟨q % 8, by omega⟩ (by show q % 8 ≠ 0; omega)
      rw [show (sm 8 fun x => bB (q % 8) x) = 0 from this, Int.mul_zero, Int.mul_zero]
    · have := row_sum ⟨q / 8, by omega⟩ hu
      rw [show (sm 8 fun x => bB (q / 8) x) = 0 from this, Int.zero_mul, Int.mul_zero]
  rw [z]
  have := rnd_bd 0 (by omega) (by omega)
  omega

def BytesL (l : List Int) : Prop := l.length ≤ 1048576 ∧ ∀ x ∈ l, 0 ≤ x ∧ x ≤ 255
theorem rd_byte {l : List Int} (h : BytesL l) (i : Int) (h0 : 0 ≤ i) (h1 : i < (l.length : Int)) : 0 ≤ rd l i ∧ rd l i ≤ 255 := by
  obtain ⟨n, rfl⟩ := Int.eq_ofNat_of_zero_le h0
  have hn : n < l.length := by omega
  rw [rd_nat l n hn]
  exact h.2 _ (List.getElem_mem hn)
def CurOk (a s b : Int) : Prop := 0 ≤ a ∧ a ≤ b ∧ b ≤ 1152921504606846976 ∧ 0 ≤ s ∧ s ≤ 65521
theorem tmodw {x y : Int} (h0 : 0 ≤ x) (hy : 0 < y) : 0 ≤ Int.tmod x y ∧ Int.tmod x y < y := by
  rw [Int.tmod_eq_emod_of_nonneg h0]
  exact ⟨Int.emod_nonneg _ (by omega), Int.emod_lt_of_pos _ hy⟩
theorem pick_ok {l : List Int} (hl : BytesL l) {a s b : Int} (n : Int) (hc : CurOk a s b) (hb : b + 2 ≤ 1152921504606846976) (hn : 1 ≤ n) : ∃ r a' s', spec_l01Cur_pick.f l a s n = some (r, a', s') ∧ 0 ≤ r ∧ r < n ∧ CurOk a' s' (b + 2) := by
  obtain ⟨h1, h2, h3, h4, h5⟩ := hc
  have hll := hl.1
  unfold spec_l01Cur_pick.f
  by_cases c1 : n < 2
  · exact ⟨0, a, s, by rw [if_pos c1], by omega, by omega, by omega, by omega, hb, h4, h5⟩
  rw [if_neg c1]
  by_cases c2 : a < (l.length : Int)
  · rw [if_pos c2, if_pos h1, w64 (x := a + 1) (by omega) (by omega)]
    have r1 := rd_byte hl a h1 c2
    have t1 := tmodw (x := rd l a) (y := n) (by omega) (by omega)
    by_cases c3 : n > 256
    · rw [if_pos c3]
      by_cases c4 : a + 1 < (l.length : Int)
      · have r2 := rd_byte hl (a + 1) (by omega) c4
        have t2 := tmodw (x := 256 * rd l a + rd l (a + 1)) (y := n) (by omega) (by omega)
        rw [if_pos c4, if_pos (by omega), if_neg (by omega)]
        refine ⟨_, _, _, rfl, ?_, ?_, ?_⟩
        · rw [w64 (x := rd l a) (by omega) (by omega), w64 (x := 256 * rd l a) (by omega) (by omega), w64 (x := rd l (a + 1)) (by omega) (by omega), w64 (by omega) (by omega)]; exact t2.1
        · rw [w64 (x := rd l a) (by omega) (by omega), w64 (x := 256 * rd l a) (by omega) (by omega), w64 (x := rd l (a + 1)) (by omega) (by omega), w64 (by omega) (by omega)]; exact t2.2
        · rw [w64 (x := a + 1 + 1) (by omega) (by omega)]; exact ⟨by omega, by omega, hb, h4, h5⟩
      · rw [if_neg c4, if_neg (by omega), w64 (x := rd l a) (by omega) (by omega)]
        exact ⟨_, _, _, rfl, t1.1, t1.2, by omega, by omega, hb, h4, h5⟩
    · rw [if_neg c3, if_neg (by omega), w64 (x := rd l a) (by omega) (by omega)]
      exact ⟨_, _, _, rfl, t1.1, t1.2, by omega, by omega, hb, h4, h5⟩
  · rw [if_neg c2, w64 (x := s * 1103) (by omega) (by omega), w64 (x := s * 1103 + 12345) (by omega) (by omega), w64 (x := a + 1) (by omega) (by omega)]
    have t3 := tmodw (x := s * 1103 + 12345) (y := 65521) (by omega) (by omega)
    rw [tdw (x := Int.tmod (s * 1103 + 12345) 65521) (by omega) (by omega) (by omega)]
    have d3 := div_bd (x := Int.tmod (s * 1103 + 12345) 65521) (y := 3) (by omega) (by omega)
    by_cases c5 : (l.length : Int) > 0
    · have t4 := tmodw (x := a) (y := (l.length : Int)) h1 c5
      have r4 := rd_byte hl (Int.tmod a (l.length : Int)) t4.1 t4.2
      rw [if_pos c5, if_neg (by omega), if_pos t4.1, if_pos t4.2, if_neg (by omega), w64 (x := rd l (Int.tmod a (l.length : Int))) (by omega) (by omega), w64 (x := Int.tmod (s * 1103 + 12345) 65521 / 3 + rd l (Int.tmod a (l.length : Int))) (by omega) (by omega)]
      have t5 := tmodw (x := Int.tmod (s * 1103 + 12345) 65521 / 3 + rd l (Int.tmod a (l.length : Int))) (y := n) (by omega) (by omega)
      exact ⟨_, _, _, rfl, t5.1, t5.2, by omega, by omega, hb, t3.1, by omega⟩
    · rw [if_neg c5, if_neg (by omega)]
      have t5 := tmodw (x := Int.tmod (s * 1103 + 12345) 65521 / 3) (y := n) (by omega) (by omega)
      exact ⟨_, _, _, rfl, t5.1, t5.2, by omega, by omega, hb, t3.1, by omega⟩
theorem open_ok {l : List Int} (hl : BytesL l) : ∃ s, spec_l01Open.f l = some (l, 0, s) ∧ CurOk 0 s 0 := by
  refine ⟨13 + ((l.length : Int) % 1000), rfl, by omega, by omega, by omega, by omega, by omega⟩

theorem once_ok {l : List Int} (hl : BytesL l) {a s b : Int} (n : Int) (hc : CurOk a s b) (hb : b + 2 ≤ 1152921504606846976) (hn : 1 ≤ n) : ∃ r a' s', spec_l01Cur_once.f l a s n = some (r, a', s') ∧ CurOk a' s' (b + 2) := by
  obtain ⟨r, a', s', h, _, _, h'⟩ := pick_ok hl n hc hb hn
  unfold spec_l01Cur_once.f
  rw [h]
  exact ⟨_, _, _, rfl, h'⟩

def oddsL : List Int := [(-1), 0, 1, 2, 255, 256, 65535, 9223372036854775807, (-9223372036854775808), 17, 8, 12]
theorem odd_ok {l : List Int} (hl : BytesL l) {a s b : Int} (hc : CurOk a s b) (hb : b + 2 ≤ 1152921504606846976) : ∃ r a' s', spec_l01Cur_odd.f l a s = some (r, a', s') ∧ (-9223372036854775808 ≤ r ∧ r ≤ 9223372036854775807) ∧ CurOk a' s' (b + 2) := by
  obtain ⟨r, a', s', h, h0, h1, h'⟩ := pick_ok hl 12 hc hb (by omega)
  unfold spec_l01Cur_odd.f
  rw [Option.bind_some, h, Option.bind_some]
  show ∃ r0 a0 s0, (if 0 ≤ r then if r < (oddsL.length : Int) then some (rd oddsL r, a', s') else none else none) = _ ∧ _
  rw [if_pos h0, if_pos (show r < (oddsL.length : Int) by simp [oddsL]; omega)]
  refine ⟨_, _, _, rfl, ?_, h'⟩
  obtain ⟨n, rfl⟩ := Int.eq_ofNat_of_zero_le h0
  have key : ∀ j : Fin 12, -9223372036854775808 ≤ oddsL.getD j.val 0 ∧ oddsL.getD j.val 0 ≤ 9223372036854775807 := by decide +kernel
  rw [rd_getD]
  exact key ⟨n, by omega⟩

theorem clipG (a lo hi : Int) : spec_l05Clip.f a lo hi = some (if a < lo then lo else if a > hi then hi else a) := by
  unfold spec_l05Clip.f; (repeat' split) <;> rfl

theorem drawSamples_l1 {l : List Int} (hl : BytesL l) : ∀ (d : Nat) (k : Nat) (o : List Int) (i a s b : Int), d < k → i + d = 64 → 0 ≤ i → o.length = 64 → CurOk a s b → b + 2 * d ≤ 1152921504606846976 → ∃ o' a' s', spec_l06DrawSamples.l1 k o i l a s = some (o', a', s') := by
  intro d
  induction d with
  | zero =>
    intro k o i a s b hk hi h0 ho hc hb
    obtain ⟨k, rfl⟩ : ∃ m, k = m + 1 := ⟨k - 1, by omega⟩
    exact ⟨o, a, s, by rw [spec_l06DrawSamples.l1, if_neg (by omega)]⟩
  | succ d ih =>
    intro k o i a s b hk hi h0 ho hc hb
    obtain ⟨k, rfl⟩ : ∃ m, k = m + 1 := ⟨k - 1, by omega⟩
    rw [spec_l06DrawSamples.l1, if_pos (by omega), if_pos h0, if_pos (by omega), Option.bind_some]
    obtain ⟨r1, a1, s1, e1, c1⟩ := once_ok hl 2 hc (by omega) (by omega)
    rw [e1, Option.bind_some, w64 (x := i + 1) (by omega) (by omega)]
    by_cases h1 : r1 = true
    · rw [if_pos h1]
      exact ih k _ (i + 1) a1 s1 (b + 2) (by omega) (by omega) (by omega) (by simp [ho]) c1 (by omega)
    · rw [if_neg h1]
      exact ih k _ (i + 1) a1 s1 (b + 2) (by omega) (by omega) (by omega) (by simp [ho]) c1 (by omega)
theorem drawSamples_l0 {l : List Int} (hl : BytesL l) (x m : Int) (hx : -128 ≤ x ∧ x ≤ 127) (hm : 8 ≤ m ∧ m ≤ 2047) : ∀ (d : Nat) (k : Nat) (o : List Int) (i a s b : Int), d + 70 < k → i + d = 64 → (o.length : Int) = i → CurOk a s b → b + 8 * d + 200 ≤ 1152921504606846976 → ∃ o' a' s', spec_l06DrawSamples.l0 k o x m i l a s = some (o', a', s') := by
  intro d
  induction d with
  | zero =>
    intro k o i a s b hk hi ho hc hb
    obtain ⟨k, rfl⟩ : ∃ m, k = m + 1 := ⟨k - 1, by omega⟩
    rw [spec_l06DrawSamples.l0, if_neg (by omega)]
    obtain ⟨r1, a1, s1, e1, p1, q1, c1⟩ := pick_ok hl 20 hc (by omega) (by omega)
    simp only [e1, Option.bind_some]
    by_cases h0 : r1 = 0
    · rw [if_pos h0]
      obtain ⟨r2, a2, s2, e2, p2, q2, c2⟩ := pick_ok hl 64 c1 (by omega) (by omega)
      simp only [e2, Option.bind_some]
      obtain ⟨r3, a3, s3, e3, _, c3⟩ := odd_ok hl c2 (by omega)
      simp only [e3, Option.bind_some]
      obtain ⟨r4, a4, s4, e4, p4, q4, c4⟩ := pick_ok hl 3 c3 (by omega) (by omega)
      simp only [e4, Option.bind_some]
      rw [if_pos p4, if_pos (by simp; omega), if_pos p2, if_pos (by omega)]
      exact ⟨_, _, _, rfl⟩
    · rw [if_neg h0]
      by_cases h1 : r1 = 1
      · rw [if_pos h1, if_pos (by omega)]; exact ⟨_, _, _, rfl⟩
      · rw [if_neg h1]
        by_cases h2 : r1 = 2
        · rw [if_pos h2]
          exact drawSamples_l1 hl 64 k o 0 a1 s1 (b + 2) (by omega) (by omega) (by omega) (by omega) c1 (by omega)
        · rw [if_neg h2]; exact ⟨_, _, _, rfl⟩
  | succ d ih =>
    intro k o i a s b hk hi ho hc hb
    obtain ⟨k, rfl⟩ : ∃ m, k = m + 1 := ⟨k - 1, by omega⟩
    have done : ∀ (v a0 s0 : Int), CurOk a0 s0 (b + 8) → ∃ o' a' s', spec_l06DrawSamples.l0 k (o ++ [v]) x m (wrap64 (i + 1)) l a0 s0 = some (o', a', s') := by
      intro v a0 s0 hc0
      rw [w64 (by omega) (by omega)]
      exact ih k (o ++ [v]) (i + 1) a0 s0 (b + 8) (by omega) (by omega) (by simp; omega) hc0 (by omega)
    have up : ∀ a0 s0 b0 : Int, CurOk a0 s0 b0 → b0 ≤ b + 8 → CurOk a0 s0 (b + 8) := fun a0 s0 b0 ⟨h1, h2, h3, h4, h5⟩ h => ⟨h1, by omega, by omega, h4, h5⟩
    rw [spec_l06DrawSamples.l0, if_pos (by omega)]
    obtain ⟨r1, a1, s1, e1, p1, q1, c1⟩ := pick_ok hl 9 hc (by omega) (by omega)
    simp only [e1, Option.bind_some]
    obtain ⟨r2, a2, s2, e2, p2, q2, c2⟩ := pick_ok hl 5 c1 (by omega) (by omega)
    simp only [e2, Option.bind_some]
    by_cases h0 : r2 = 0
    · rw [if_pos h0, w64 (x := 2 * m) (by omega) (by omega), w64 (x := 2 * m + 1) (by omega) (by omega)]
      obtain ⟨r3, a3, s3, e3, p3, q3, c3⟩ := pick_ok hl (2 * m + 1) c2 (by omega) (by omega)
      simp only [e3, Option.bind_some, clipG]
      rw [if_pos (by omega)]
      exact done _ a3 s3 (up _ _ _ c3 (by omega))
    · rw [if_neg h0]
      by_cases h1 : r2 = 1
      · rw [if_pos h1]
        simp only [clipG, Option.bind_some]
        rw [if_pos (by omega)]
        exact done _ a2 s2 (up _ _ _ c2 (by omega))
      · rw [if_neg h1]
        simp only [clipG, Option.bind_some]
        rw [if_pos (by omega)]
        exact done _ a2 s2 (up _ _ _ c2 (by omega))
theorem drawSamples_ok {l : List Int} (hl : BytesL l) {a s b : Int} (hc : CurOk a s b) (hb : b + 1000 ≤ 1152921504606846976) (k : Nat) (hk : 140 < k) : ∃ o a' s', spec_l06DrawSamples.f k l a s = some (o, a', s') := by
  unfold spec_l06DrawSamples.f
  obtain ⟨r1, a1, s1, e1, p1, q1, c1⟩ := pick_ok hl 256 hc (by omega) (by omega)
  simp only [e1, Option.bind_some]
  obtain ⟨r2, a2, s2, e2, p2, q2, c2⟩ := pick_ok hl 3 c1 (by omega) (by omega)
  simp only [e2, Option.bind_some]
  rw [if_pos p2, if_pos (by simp; omega), w64 (x := r1 - 128) (by omega) (by omega)]
  have hm : 8 ≤ rd [8, 128, 2047] r2 ∧ rd [8, 128, 2047] r2 ≤ 2047 := by
    rcases (show r2 = 0 ∨ r2 = 1 ∨ r2 = 2 by omega) with h | h | h <;> subst h <;> decide +kernel
  exact drawSamples_l0 hl _ _ (by omega) hm 64 k [] 0 a2 s2 _ (by omega) (by omega) (by simp) c2 (by omega)

theorem sameInts_loop (l : List Int) (hl : l.length ≤ 4611686018427387904) : ∀ (d k i : Nat), i + d = l.length → d < k → laws_sameInts.l0 k l l (i : Int) = some true := by
  intro d
  induction d with
  | zero =>
    intro k i hi hk
    obtain ⟨k, rfl⟩ : ∃ m, k = m + 1 := ⟨k - 1, by omega⟩
    rw [laws_sameInts.l0, if_neg (by omega)]
  | succ d ih =>
    intro k i hi hk
    obtain ⟨k, rfl⟩ : ∃ m, k = m + 1 := ⟨k - 1, by omega⟩
    rw [laws_sameInts.l0, if_pos (by omega), if_pos (by omega), if_pos (by omega), if_pos rfl, wsucc (by omega)]
    exact ih k (i + 1) (by omega) (by omega)
theorem sameInts_refl (l : List Int) (hl : l.length ≤ 4611686018427387904) (k : Nat) (hk : l.length < k) : laws_sameInts.f k l l = some true := by
  unfold laws_sameInts.f
  rw [if_pos rfl]
  exact sameInts_loop l hl l.length k 0 (by omega) hk

theorem big_no {l : List Int} (h : ¬ (l.length : Int) > 1048576) : laws_big.f l = some false := by unfold laws_big.f; rw [decide_eq_false h]
theorem big_yes {l : List Int} (h : (l.length : Int) > 1048576) : laws_big.f l = some true := by unfold laws_big.f; rw [decide_eq_true h]
theorem bytes_of {l : List Int} (h : ¬ (l.length : Int) > 1048576) (hw : ∀ x ∈ l, (Lit.int .u8 x).wf = true) : BytesL l := ⟨by omega, fun x hx => wfu8 (hw x hx)⟩

theorem zeros_loop (w : List Int) (hl : w.length = 64) (hz : ∀ q : Nat, 0 < q → q < 64 → w.getD q 0 = 0) : ∀ (d k i : Nat), i + d = 64 → 0 < i → d < k → laws_FnWavesBack.l2 k w (i : Int) = some true := by
  intro d
  induction d with
  | zero =>
    intro k i hi h0 hk
    obtain ⟨k, rfl⟩ : ∃ m, k = m + 1 := ⟨k - 1, by omega⟩
    rw [laws_FnWavesBack.l2, if_neg (by omega)]
  | succ d ih =>
    intro k i hi h0 hk
    obtain ⟨k, rfl⟩ : ∃ m, k = m + 1 := ⟨k - 1, by omega⟩
    rw [laws_FnWavesBack.l2, if_pos (by omega), if_pos (by omega), if_pos (by omega), if_pos (by omega), rd_getD, hz i h0 (by omega), if_pos rfl, wsucc (by omega)]
    exact ih k (i + 1) (by omega) (by omega) (by omega)
theorem flat_loop (b : List Int) (h : okL (-2048) 2047 b = true) (K : Nat) (hK : ∀ k : Nat, K ≤ k → impl_Forward.f k ((List.range 64).map fun _ => b.getD 0 0) = some (fwdR ((List.range 64).map fun _ => b.getD 0 0))) :
    ∀ (d k i : Nat), i + d = 64 → d + K + 70 < k → laws_FnWavesBack.l1 k b (fil (fun _ => b.getD 0 0) i) (i : Int) = some true := by
  have hb := (okL_iff.1 h).1
  intro d
  induction d with
  | zero =>
    intro k i hi hk
    obtain ⟨k, rfl⟩ : ∃ m, k = m + 1 := ⟨k - 1, by omega⟩
    obtain rfl : i = 64 := by omega
    have s := samp b h 0 (by omega)
    rw [laws_FnWavesBack.l1, if_neg (by omega), fil_all, hK k (by omega), Option.bind_some]
    refine zeros_loop _ ?_ (fun q h0 h1 => flat_at _ s q h0 h1) 63 k 1 (by omega) (by omega) (by omega)
    rw [fwdR_ok _ (okMap _ fun _ _ => s)]; simp
  | succ d ih =>
    intro k i hi hk
    obtain ⟨k, rfl⟩ : ∃ m, k = m + 1 := ⟨k - 1, by omega⟩
    have fl := fil_len (fun _ => b.getD 0 0) i
    have r0 : rd b 0 = b.getD 0 0 := rd_getD b 0
    rw [laws_FnWavesBack.l1, if_pos (by omega), if_pos (by omega), if_pos (by omega), if_pos (by omega), r0, Int.toNat_natCast, fil_set (fun _ => b.getD 0 0) i (by omega), wsucc (by omega)]
    exact ih k (i + 1) (by omega) (by omega)
theorem back_loop (b : List Int) (h : okL (-2048) 2047 b = true) (K : Nat) (hK : ∀ k : Nat, K ≤ k → impl_Forward.f k ((List.range 64).map fun _ => b.getD 0 0) = some (fwdR ((List.range 64).map fun _ => b.getD 0 0))) :
    ∀ (d k i : Nat), i + d = 64 → d + K + 200 < k → laws_FnWavesBack.l0 k b (invR (fwdR b)) (i : Int) = some true := by
  have hb := (okL_iff.1 h).1
  have hx : (invR (fwdR b)).length = 64 := by unfold invR; rw [if_pos (fwdR_block b h)]; simp
  intro d
  induction d with
  | zero =>
    intro k i hi hk
    obtain ⟨k, rfl⟩ : ∃ m, k = m + 1 := ⟨k - 1, by omega⟩
    obtain rfl : i = 64 := by omega
    rw [laws_FnWavesBack.l0, if_neg (by omega), if_pos (by omega), ← fil_zero (fun _ => b.getD 0 0)]
    exact flat_loop b h K hK 64 k 0 (by omega) (by omega)
  | succ d ih =>
    intro k i hi hk
    obtain ⟨k, rfl⟩ : ∃ m, k = m + 1 := ⟨k - 1, by omega⟩
    have a := back_at b h i (by omega)
    have s := samp b h i (by omega)
    have e : ∃ r, laws_abs.f ((invR (fwdR b)).getD i 0 - b.getD i 0) = some r ∧ ¬ r > 16 := by
      unfold laws_abs.f
      by_cases c : (invR (fwdR b)).getD i 0 - b.getD i 0 < 0
      · rw [if_pos c]
        exact ⟨_, rfl, by rw [w64 (by omega) (by omega)]; omega⟩
      · rw [if_neg c]
        exact ⟨_, rfl, by omega⟩
    obtain ⟨r, e1, e2⟩ := e
    rw [laws_FnWavesBack.l0, if_pos (by omega), if_pos (by omega), if_pos (by omega), if_pos (by omega), rd_getD, rd_getD, w64 (x := (invR (fwdR b)).getD i 0 - b.getD i 0) (by omega) (by omega), e1, Option.bind_some, if_neg e2, wsucc (by omega)]
    exact ih k (i + 1) (by omega) (by omega)
theorem FnWavesBack : laws_FnWavesBack.Pure := by
  intro l hm hr hw
  unfold laws_FnWavesBack.f
  by_cases hbig : (l.length : Int) > 1048576
  · exact ⟨0, by rw [big_yes hbig]; rfl⟩
  rw [big_no hbig]
  have hl := bytes_of hbig hw
  obtain ⟨s0, e0, c0⟩ := open_ok hl
  obtain ⟨b, a1, s1, e1⟩ := drawSamples_ok hl c0 (by omega) 200 (by omega)
  have ed : ∀ k : Nat, 200 ≤ k → spec_DrawForward.f k l = some b := by
    intro k hk
    refine at_rounds (g := fun k => spec_DrawForward.f k l) (fun k => spec_DrawForward.mono l k) hk ?_
    show spec_DrawForward.f 200 l = _
    unfold spec_DrawForward.f
    rw [e0, Option.bind_some]
    show (spec_l06DrawSamples.f 200 l 0 s0).bind _ = _
    rw [e1]; rfl
  obtain ⟨K1, f1⟩ := implFwd_ev b
  obtain ⟨K2, f2⟩ := specFwd_ev b
  obtain ⟨K3, f3⟩ := implInv_ev (fwdR b)
  obtain ⟨K4, f4⟩ := specInv_ev (fwdR b)
  obtain ⟨K5, f5⟩ := implFwd_ev ((List.range 64).map fun _ => b.getD 0 0)
  obtain ⟨K, hK⟩ : ∃ K, K = K1 + K2 + K3 + K4 + K5 + 1000 := ⟨_, rfl⟩
  refine ⟨K + 3, ?_⟩
  have q1 := sameInts_refl (fwdR b) (by have := fwdR_len b; omega) (K + 3) (by have := fwdR_len b; omega)
  have q2 := sameInts_refl bas (by rw [bas_len]; omega) (K + 3) (by rw [bas_len]; omega)
  have q3 := sameInts_refl (invR (fwdR b)) (by have := invR_len (fwdR b); omega) (K + 2) (by have := invR_len (fwdR b); omega)
  rw [Option.bind_some, if_neg (by decide), ed (K + 3) (by omega), Option.bind_some, f1 (K + 3) (by omega), Option.bind_some, f2 (K + 3) (by omega), Option.bind_some, q1, Option.bind_some, if_pos rfl, implBasis_eq (K + 3) (by omega), Option.bind_some, specBasis_eq (K + 3) (by omega), Option.bind_some, q2, Option.bind_some]
  rw [laws_FnWavesBack.j0, if_neg (by decide), specSamples_eq b (K + 2) (by omega), Option.bind_some]
  by_cases h : okL (-2048) 2047 b = true
  · have hx : (invR (fwdR b)).length = 64 := by unfold invR; rw [if_pos (fwdR_block b h)]; simp
    rw [if_pos h, f3 (K + 2) (by omega), Option.bind_some, f4 (K + 2) (by omega), Option.bind_some, q3, Option.bind_some, if_pos rfl, hx]
    rw [laws_FnWavesBack.j1, if_neg (by decide)]
    exact back_loop b h K5 f5 64 (K + 1) 0 (by omega) (by omega)
  · rw [if_neg h]
    unfold fwdR
    rw [if_neg h]; rfl

end Go.Proofs.Yticlmpkbcmanfaa.Pure
