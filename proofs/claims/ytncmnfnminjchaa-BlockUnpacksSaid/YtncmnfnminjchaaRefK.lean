/-
  Contracts of the references of chapters 1, 3 and 11: sums, bytes, blocks.
-/
import Derived.Test.YtncmnfnminjchaaBlkC
import Derived.Test.YtncmnfnminjchaaRefB
import Derived.Test.YtncmnfnminjchaaRefD
import Derived.Test.YtncmnfnminjchaaRefE
import Derived.Test.YtncmnfnminjchaaStr
namespace Go.Proofs.Ytncmnfnminjchaa
open Go.RowKit Cad Cad.Bit Cad.Crc Cad.Le
set_option linter.unusedVariables false
set_option linter.unusedSimpArgs false


theorem step_bit (s b : Nat) (hb : b < 2) : Crc.step (s ^^^ b) = if s % 2 = b then s / 2 else s / 2 ^^^ 3988292384 := by
  unfold Crc.step
  rw [xor_div, xor_mod, show b / 2 = 0 by omega, Nat.xor_zero, show b % 2 = b by omega]
  have h : s % 2 = 0 ∨ s % 2 = 1 := Nat.mod_two_eq_zero_or_one s
  have h2 : b = 0 ∨ b = 1 := by omega
  rcases h with h | h <;> rcases h2 with rfl | rfl <;> rw [h] <;> simp
theorem rstep_ok (s b : Nat) (w : World) (hs : s < 4294967296) (hb : b < 2) :
    Calls Try.prog 44 #[.int .u32 (s : Int), .int .i64 (b : Int)] w fun e w' => e = .returned (.int .u32 ((Crc.step (s ^^^ b) : Nat) : Int)) ∧ w = w' := by
  have hx : bits .xor .u32 ((s : Int) / 2) 3988292384 = ((s / 2 ^^^ 3988292384 : Nat) : Int) := by
    rw [show (s : Int) / 2 = ((s / 2 : Nat) : Int) by omega]; exact xor_u32 _ _ (by omega) (by decide)
  have HX := Lib.hid hx
  clear hx
  by_cases h1 : s % 2 = 1
  · have t1 : ((s : Int) % 2 == 1) = true := beq_iff_eq.2 (by omega)
    by_cases h2 : b = 1
    · have t2 : ((b : Int) == 1) = true := beq_iff_eq.2 (by omega)
      have HR : Hid (Crc.step (s ^^^ b) = s / 2) := by rw [step_bit s b hb, if_pos (by omega)]; exact Lib.hid rfl
      have HC : Hid (((s / 2 : Nat) : Int) = (s : Int) / 2) := Lib.hid (by omega)
      clear h1 h2
      go_enter Try.func44, Try.ntmps44
      go_wp2
      go_ret
      exact ⟨ret_int (by rw [HR.out, HC.out]), rfl⟩
    · have t2 : ((b : Int) == 1) = false := beq_eq_false_iff_ne.2 (by omega)
      have HR : Hid (Crc.step (s ^^^ b) = s / 2 ^^^ 3988292384) := by rw [step_bit s b hb, if_neg (by omega)]; exact Lib.hid rfl
      clear h1 h2
      go_enter Try.func44, Try.ntmps44
      go_wp2
      go_ret
      exact ⟨ret_int (by rw [HR.out, HX.out]), rfl⟩
  · have t1 : ((s : Int) % 2 == 1) = false := beq_eq_false_iff_ne.2 (by omega)
    by_cases h2 : b = 1
    · have t2 : ((b : Int) == 1) = true := beq_iff_eq.2 (by omega)
      have HR : Hid (Crc.step (s ^^^ b) = s / 2 ^^^ 3988292384) := by rw [step_bit s b hb, if_neg (by omega)]; exact Lib.hid rfl
      clear h1 h2
      go_enter Try.func44, Try.ntmps44
      go_wp2
      go_ret
      exact ⟨ret_int (by rw [HR.out, HX.out]), rfl⟩
    · have t2 : ((b : Int) == 1) = false := beq_eq_false_iff_ne.2 (by omega)
      have HR : Hid (Crc.step (s ^^^ b) = s / 2) := by rw [step_bit s b hb, if_pos (by omega)]; exact Lib.hid rfl
      have HC : Hid (((s / 2 : Nat) : Int) = (s : Int) / 2) := Lib.hid (by omega)
      clear h1 h2
      go_enter Try.func44, Try.ntmps44
      go_wp2
      go_ret
      exact ⟨ret_int (by rw [HR.out, HC.out]), rfl⟩

set_option maxHeartbeats 400000 in
theorem rbyte_ok (s b : Nat) (w : World) (hs : s < 4294967296) (hb : b < 256) :
    Calls Try.prog 43 #[.int .u32 (s : Int), .int .u8 (b : Int)] w fun e w' => e = .returned (.int .u32 ((Crc.byte s b : Nat) : Int)) ∧ w = w' := by
  have HB : Hid (bitsOf 8 s b = Crc.byte s b) := Lib.hid (bitsOf_eq 8 s b hb)
  go_enter Try.func43, Try.ntmps43
  go_wp2_with fail
  go_loopg [0, 1, 5] 8 (fun r v c i wr => ∃ k x y : Nat, k + r = 8 ∧ i = .int .i64 (k : Int) ∧ v = .int .u32 (x : Int) ∧ c = .int .u8 (y : Int) ∧ x < 4294967296 ∧ y < 256 ∧ Hid (bitsOf r x y = Crc.byte s b) ∧ wr = w)
  case atStart => exact ⟨0, s, b, by omega, rfl, rfl, rfl, hs, hb, HB, rfl⟩
  case round =>
    obtain ⟨k, x, y, hk, rfl, rfl, rfl, hx, hy, HK, rfl⟩ := hrel
    by_cases hlt : k < 8
    · have hlt' : (k : Int) < 8 := by omega
      obtain ⟨z, HZ⟩ : ∃ z : Nat, Hid (z = y % 2) := ⟨_, Lib.hid rfl⟩
      have hz : z < 2 := by rw [HZ.out]; omega
      have hz2 : (y : Int) % 2 = (z : Int) := by rw [HZ.out]; omega
      obtain ⟨u, HU⟩ : ∃ u : Nat, Hid (u = y / 2) := ⟨_, Lib.hid rfl⟩
      have hu : u < 256 := by rw [HU.out]; omega
      have hu2 : (y : Int) / 2 = (u : Int) := by rw [HU.out]; omega
      go_wp2_with fail
      refine (rstep_ok x z _ hx hz).mono ?_
      rintro e _ ⟨rfl, rfl⟩
      go_wp2
      go_roundg (8 - (k + 1))
      case measure => omega
      case rel =>
        refine ⟨k + 1, Crc.step (x ^^^ z), u, by omega, by go_num, rfl, rfl, step_lt (xor_lt (n := 32) hx (by omega)), hu, Lib.hid ?_, rfl⟩
        have h := HK.out
        rw [show gk = 8 - (k + 1) + 1 by omega] at h
        rw [HZ.out, HU.out]
        exact h
    · obtain rfl : k = 8 := by omega
      have HE : Hid (x = Crc.byte s b) := by
        have h := HK.out
        rw [show gk = 0 by omega] at h
        exact Lib.hid h
      go_wp2
      go_ret
      exact ⟨ret_int (by rw [← HE.out]), rfl⟩

set_option maxHeartbeats 400000 in
theorem rbehind_ok (s : Nat) (A : Option Addr) (n c : Nat) (l : List Int) (w : World) (ha : Row .u8 w A n l) (hl : Within 0 255 l) (hn : n ≤ 9223372036854775807) (hs : s < 4294967296) :
    Calls Try.prog 42 #[.int .u32 (s : Int), .slice A n c] w fun e w' => e = .returned (.int .u32 ((Crc.bytes s l : Nat) : Int)) ∧ w = w' := by
  have HL := Lib.hid ha.len
  go_enter Try.func42, Try.ntmps42
  go_wp2_with fail
  go_loopg [0, 5] n (fun r v i wr => ∃ k x : Nat, k + r = n ∧ i = .int .i64 (k : Int) ∧ v = .int .u32 (x : Int) ∧ Hid (x = Crc.bytes s (l.take k)) ∧ wr = w)
  case atStart => exact ⟨0, s, by omega, rfl, rfl, Lib.hid rfl, rfl⟩
  case round =>
    obtain ⟨k, x, hk, rfl, rfl, HX, rfl⟩ := hrel
    have hx : x < 4294967296 := by rw [HX.out]; exact bytes_lt hs (hl.take k)
    by_cases hlt : k < n
    · have hlt' : (k : Int) < (n : Int) := by omega
      obtain ⟨b, o, rfl, hbk, hc⟩ := ha.at (by omega)
      have hy := hl.nth (by decide) (by decide) k
      obtain ⟨y, hye⟩ : ∃ y : Nat, nth l k = (y : Int) := ⟨(nth l k).toNat, by omega⟩
      have hy8 : y < 256 := by omega
      have c1 : wr.cell? ⟨b, o + k, none⟩ = some (.int .u8 (y : Int)) := by rw [hc k hlt, hye]
      clear hc hy
      have HY := Lib.hid hye
      clear hye
      go_wp2_with fail
      refine (rbyte_ok x y _ hx hy8).mono ?_
      rintro e _ ⟨rfl, rfl⟩
      go_wp2
      go_roundg (n - (k + 1))
      case measure => omega
      case rel =>
        refine ⟨k + 1, Crc.byte x y, by omega, by go_num, rfl, Lib.hid ?_, rfl⟩
        rw [bytes_next (by rw [HL.out]; exact hlt), ← HX.out, HY.out, Int.toNat_natCast]
    · obtain rfl : k = n := by omega
      have HE : Hid (x = Crc.bytes s l) := by rw [HX.out, List.take_of_length_le (by rw [HL.out]; exact Nat.le_refl _)]; exact Lib.hid rfl
      go_wp2
      go_ret
      exact ⟨ret_int (by rw [← HE.out]), rfl⟩

theorem rsum_ok (A : Option Addr) (n c : Nat) (l : List Int) (w : World) (ha : Row .u8 w A n l) (hl : Within 0 255 l) (hn : n ≤ 9223372036854775807) :
    Calls Try.prog 40 #[.slice A n c] w fun e w' => e = .returned (.int .u32 ((Crc.sum l : Nat) : Int)) ∧ w = w' := by
  obtain ⟨x, HX⟩ : ∃ x, Hid (x = Crc.bytes 4294967295 l) := ⟨_, Lib.hid rfl⟩
  have hx : x < 4294967296 := by rw [HX.out]; exact bytes_lt (by decide) hl
  have hc := rbehind_ok 4294967295 A n c l w ha hl hn (by decide)
  rw [← HX.out] at hc
  have HC := Lib.hid hc
  clear hc
  go_enter Try.func40, Try.ntmps40
  go_wp2_with fail
  refine HC.out.mono ?_
  rintro e _ ⟨rfl, rfl⟩
  go_wp2
  go_ret
  exact ⟨ret_int (by unfold Crc.sum; rw [← HX.out]; omega), rfl⟩

theorem leB_snoc (n j : Nat) : leB n j ++ [((n / 2 ^ (8 * j) % 256 : Nat) : Int)] = leB n (j + 1) := by
  unfold leB; rw [List.range_succ, List.map_append]; rfl
set_option maxHeartbeats 400000 in
theorem rwritten_ok (n m : Nat) (w : World) (h8 : m ≤ 8) (hn : n < 18446744073709551616) :
    Calls Try.prog 39 #[.int .u64 (n : Int), .int .i64 (m : Int)] w fun e w' => ∃ B d, e = .returned (.slice B m d) ∧ Own w' w.heap.size 5 .u8 B m d (leB n m) ∧ Below w.heap.size w w' := by
  go_enter Try.func39, Try.ntmps39
  go_wp2_with fail
  go_loopg [0, 5, 6] m (fun r v s i wr => ∃ (j x : Nat) (B : Option Addr) (d : Nat), j + r = m ∧ i = .int .i64 (j : Int) ∧ v = .int .u64 (x : Int) ∧ s = .slice B j d ∧ Hid (x = n / 2 ^ (8 * j)) ∧ Own wr w.heap.size 5 .u8 B j d (leB n j) ∧ Below w.heap.size w wr)
  case atStart => exact ⟨0, n, none, 0, by omega, rfl, rfl, rfl, Lib.hid (by simp), Own.nil _ _ _ _, Below.refl _ _⟩
  case round =>
    obtain ⟨j, x, B, d, hj, rfl, rfl, rfl, HX, hown, hbel⟩ := hrel
    have hx : x < 18446744073709551616 := by rw [HX.out]; exact Nat.lt_of_le_of_lt (Nat.div_le_self _ _) hn
    by_cases hlt : j < m
    · have hlt' : (j : Int) < (m : Int) := by omega
      obtain ⟨y, HY⟩ : ∃ y : Nat, Hid (y = x % 256) := ⟨_, Lib.hid rfl⟩
      have hy : y < 256 := by rw [HY.out]; omega
      have hye : (x : Int) % 256 = (y : Int) := by rw [HY.out]; omega
      obtain ⟨u, HU⟩ : ∃ u : Nat, Hid (u = x / 256) := ⟨_, Lib.hid rfl⟩
      have hue : (x : Int) / 256 = (u : Int) := by rw [HU.out]; omega
      go_wp2_with (at_builtin; refine wpList_app _ u8E rfl _ _ rfl w.heap.size _ _ _ _ rfl (by exact hown.alloc _) _ _ _ [(y : Int)] rfl (by exact row_one _ _ _ _) (by omega) (by have := hbel.size; simp; omega) ?_; intro B' d' w1 hown1 hg1 _)
      have hb1 : Below w.heap.size w w1 := Below.grown (hbel.alloc hbel.size _) hg1 (by have := hbel.size; simp; omega) (fun g e => (hown.block g e).1)
      rw [HY.out, HX.out, leB_snoc] at hown1
      go_wp2
      go_roundg (m - (j + 1))
      case measure => omega
      case rel => exact ⟨j + 1, u, B', d', by omega, by go_num, rfl, rfl, Lib.hid (by rw [HU.out, HX.out, Nat.div_div_eq_div_mul, show 8 * (j + 1) = 8 * j + 8 by omega, Nat.pow_add]), hown1, hb1⟩
    · obtain rfl : j = m := by omega
      go_wp2
      go_ret
      exact ⟨B, d, rfl, hown, hbel⟩

theorem rlong_ok (n : Nat) (w : World) (h : n ≤ 1000000000) :
    Calls Try.prog 33 #[.int .i64 (n : Int)] w fun e w' => e = .returned (.int .i64 (((n + 7) / 8 + 4 : Nat) : Int)) ∧ w = w' := by
  go_enter Try.func33, Try.ntmps33
  go_wp2
  go_ret
  exact ⟨ret_int (by omega), rfl⟩
theorem rbsize_ok (n : Nat) (w : World) (h : n ≤ 330000) :
    Calls Try.prog 21 #[.int .i64 (n : Int)] w fun e w' => e = .returned (.tuple #[.int .i64 (((n + 7) / 8 + 4 : Nat) : Int), .int .i64 0]) ∧ w = w' := by
  have a1 : ¬ (n : Int) < 0 := by omega
  have a2 : ¬ (330000 : Int) < (n : Int) := by omega
  go_enter Try.func21, Try.ntmps21
  go_wp2_with fail
  refine (rlong_ok n _ (by omega)).mono ?_
  rintro e _ ⟨rfl, rfl⟩
  go_wp2
  go_ret2
  exact ⟨by go_num, rfl⟩
theorem rbsize_bad (n : Int) (w : World) (h : n < 0 ∨ 330000 < n) :
    Calls Try.prog 21 #[.int .i64 n] w fun e w' => e = .returned (.tuple #[.int .i64 0, .int .i64 2]) ∧ w = w' := by
  by_cases h1 : n < 0
  · go_enter Try.func21, Try.ntmps21
    go_wp2
    go_ret2
    exact ⟨rfl, rfl⟩
  · have h2 : 330000 < n := by omega
    go_enter Try.func21, Try.ntmps21
    go_wp2
    go_ret2
    exact ⟨rfl, rfl⟩

set_option maxHeartbeats 400000 in
theorem rsealed_ok (A : Option Addr) (n c : Nat) (l : List Int) (w : World) (ha : Row .u8 w A n l) (hl : Within 0 255 l) (hn : n ≤ 900000) :
    Calls Try.prog 34 #[.slice A n c] w fun e w' => ∃ B d, e = .returned (.slice B (n + 4) d) ∧ Own w' w.heap.size 5 .u8 B (n + 4) d (sealed l) ∧ Below w.heap.size w w' := by
  obtain ⟨x, HX⟩ : ∃ x, Hid (x = Crc.sum l) := ⟨_, Lib.hid rfl⟩
  have hx : x < 4294967296 := by rw [HX.out]; exact sum_lt hl
  have HS : Hid (sealed l = l ++ leB x 4) := by rw [HX.out]; exact Lib.hid rfl
  go_enter Try.func34, Try.ntmps34
  go_wp2_with (at_builtin; refine wpList_app _ u8E rfl _ _ rfl w.heap.size _ _ _ [] rfl (own_empty w _ _ (Nat.le_refl _)) _ _ _ l rfl (ha.alloc _) (by omega) (by simp) ?_)
  intro B d w1 own1 hg1 _
  have b1 : Below w.heap.size w w1 := Below.grown ((Below.refl _ _).alloc (Nat.le_refl _) _) hg1 (by simp) (fun g e => by simp [blockOf] at e; omega)
  try rw [List.nil_append] at own1
  try simp only [Nat.zero_add] at own1
  try simp only [Nat.zero_add]
  have ha1 := ha.below b1
  have hc := rsum_ok A n c l w1 ha1 hl (by omega)
  rw [← HX.out] at hc
  have HC := Lib.hid hc
  clear hc
  go_wp2_with fail
  refine HC.out.mono ?_
  rintro e _ ⟨rfl, rfl⟩
  clear HC
  go_wp2_with fail
  refine (rwritten_ok x 4 _ (by omega) (by omega)).mono ?_
  rintro e w2 ⟨C, q, rfl, own2, b2⟩
  have own1' := own1.below b2 (Nat.le_refl _)
  have hz1 := b1.size
  have hz2 := b2.size
  go_wp2_with (at_builtin; refine wpList_app _ u8E rfl _ _ rfl w.heap.size _ _ _ l rfl (by exact own1') _ _ _ (leB x 4) rfl (by exact own2.row) (by omega) (by omega) ?_)
  intro D f w3 own3 hg3 _
  go_wp2
  go_ret
  refine ⟨D, f, rfl, by rw [HS.out]; exact own3, ?_⟩
  exact Below.grown (b1.trans (b2.mono hz1)) hg3 (by omega) (fun g e => (own1.block g e).1)


set_option maxHeartbeats 400000 in
theorem rpack_bad (A : Option Addr) (n c : Nat) (N : Int) (bytes : List Int) (w : World) (ha : Row .u8 w A n bytes) (hb : Within 0 255 bytes) (hn : n ≤ 9223372036854775807) (hv : ¬ Valid bytes N) :
    Calls Try.prog 22 #[.agg #[.slice A n c, .int .i64 N]] w (RetY w [] 8) := by
  have hri := ha.rowIn
  go_enter Try.func22, Try.ntmps22
  go_wp2_with fail
  refine (rcheck_bad A n c N bytes _ (by exact RowIn.row (lo := 0) (hi := w.heap.size) (by repeat' (first | (with_reducible assumption) | (with_reducible exact Below.refl _ _) | (with_reducible refine Blk.drewN ?_ _) | (with_reducible refine RowIn.drewN ?_ _) | (with_reducible refine below_drewN ?_ _) | (with_reducible refine Blk.drew ?_) | (with_reducible refine RowIn.drew ?_) | (with_reducible refine Below.drew ?_) | (with_reducible refine Blk.new' ?_ ?_ <;> first | (with_reducible rfl) | (simp; done)) | (with_reducible refine Blk.alloc ?_ _) | (with_reducible refine RowIn.alloc ?_ _) | (with_reducible refine Below.alloc ?_ ?_ _) | (with_reducible apply Blk.set') | (with_reducible apply Blk.far') | (with_reducible refine RowIn.far' ?_ ?_ _) | (with_reducible refine Below.far' ?_ ?_ _) | rfl | omega | go_size))) hb hn hv).mono ?_
  rintro e w1 ⟨rfl, b1⟩
  have s1 := b1.size
  try simp only [World.size_alloc, World.size_setCell, World.size_drew, size_drewN] at s1
  obtain ⟨zd_1, ra_1, bb_1⟩ : Blk w1 (w.heap.size) 25 [.slice A n c, .int .i64 N] ∧ RowIn .u8 w1 (0) (w.heap.size) A n bytes ∧ Below w.heap.size w w1 := by
    refine ⟨?_, ?_, ?_⟩
    all_goals repeat' (first | (with_reducible assumption) | (with_reducible exact Below.refl _ _) | (with_reducible refine Blk.after ?_ b1) | (with_reducible refine RowIn.belowS ?_ b1) | (with_reducible refine Below.after ?_ b1 ?_) | (with_reducible refine Blk.drewN ?_ _) | (with_reducible refine RowIn.drewN ?_ _) | (with_reducible refine below_drewN ?_ _) | (with_reducible refine Blk.drew ?_) | (with_reducible refine RowIn.drew ?_) | (with_reducible refine Below.drew ?_) | (with_reducible refine Blk.new' ?_ ?_ <;> first | (with_reducible rfl) | (simp; done)) | (with_reducible refine Blk.alloc ?_ _) | (with_reducible refine RowIn.alloc ?_ _) | (with_reducible refine Below.alloc ?_ ?_ _) | (with_reducible apply Blk.set') | (with_reducible apply Blk.far') | (with_reducible refine RowIn.far' ?_ ?_ _) | (with_reducible refine Below.far' ?_ ?_ _) | rfl | omega | go_size)
  clear b1
  have kd_1 := zd_1.cell; have fd_1 := zd_1.frozen; have ld_1 := zd_1.lt
  go_wp2
  go_ret2
  refine RetY.of rfl ⟨Nat.le_refl _, Nat.zero_le _⟩ RowIn.nil ?_
  repeat' (first | (with_reducible assumption) | (with_reducible exact Below.refl _ _) | (with_reducible refine Blk.drewN ?_ _) | (with_reducible refine RowIn.drewN ?_ _) | (with_reducible refine below_drewN ?_ _) | (with_reducible refine Blk.drew ?_) | (with_reducible refine RowIn.drew ?_) | (with_reducible refine Below.drew ?_) | (with_reducible refine Blk.new' ?_ ?_ <;> first | (with_reducible rfl) | (simp; done)) | (with_reducible refine Blk.alloc ?_ _) | (with_reducible refine RowIn.alloc ?_ _) | (with_reducible refine Below.alloc ?_ ?_ _) | (with_reducible apply Blk.set') | (with_reducible apply Blk.far') | (with_reducible refine RowIn.far' ?_ ?_ _) | (with_reducible refine Below.far' ?_ ?_ _) | rfl | omega | go_size)


set_option maxHeartbeats 400000 in
theorem rpack_ok (A : Option Addr) (n c : Nat) (bs : List Bool) (w : World) (ha : Row .u8 w A n (pack bs)) (hc : n ≤ c ∧ c ≤ 9223372036854775807) (hl : bs.length ≤ 330000) :
    Calls Try.prog 22 #[.agg #[.slice A n c, .int .i64 ((bs.length : Nat) : Int)]] w (RetY w (sealed (pack bs)) 0) := by
  have hri := ha.rowIn
  have hm : n ≤ 41250 := by have := ha.len; rw [pack_len] at this; unfold bytesFor at this; omega
  go_enter Try.func22, Try.ntmps22
  go_wp2_with fail
  refine (rcheck_ok A n c bs _ (by exact RowIn.row (lo := 0) (hi := w.heap.size) (by repeat' (first | (with_reducible assumption) | (with_reducible exact Below.refl _ _) | (with_reducible refine Blk.drewN ?_ _) | (with_reducible refine RowIn.drewN ?_ _) | (with_reducible refine below_drewN ?_ _) | (with_reducible refine Blk.drew ?_) | (with_reducible refine RowIn.drew ?_) | (with_reducible refine Below.drew ?_) | (with_reducible refine Blk.new' ?_ ?_ <;> first | (with_reducible rfl) | (simp; done)) | (with_reducible refine Blk.alloc ?_ _) | (with_reducible refine RowIn.alloc ?_ _) | (with_reducible refine Below.alloc ?_ ?_ _) | (with_reducible apply Blk.set') | (with_reducible apply Blk.far') | (with_reducible refine RowIn.far' ?_ ?_ _) | (with_reducible refine Below.far' ?_ ?_ _) | rfl | omega | go_size))) (by omega) hl).mono ?_
  rintro e w1 ⟨rfl, b1⟩
  have s1 := b1.size
  try simp only [World.size_alloc, World.size_setCell, World.size_drew, size_drewN] at s1
  obtain ⟨zd_1, ra_1, bb_1⟩ : Blk w1 (w.heap.size) 25 [.slice A n c, .int .i64 ((bs.length : Nat) : Int)] ∧ RowIn .u8 w1 (0) (w.heap.size) A n (pack bs) ∧ Below w.heap.size w w1 := by
    refine ⟨?_, ?_, ?_⟩
    all_goals repeat' (first | (with_reducible assumption) | (with_reducible exact Below.refl _ _) | (with_reducible refine Blk.after ?_ b1) | (with_reducible refine RowIn.belowS ?_ b1) | (with_reducible refine Below.after ?_ b1 ?_) | (with_reducible refine Blk.drewN ?_ _) | (with_reducible refine RowIn.drewN ?_ _) | (with_reducible refine below_drewN ?_ _) | (with_reducible refine Blk.drew ?_) | (with_reducible refine RowIn.drew ?_) | (with_reducible refine Below.drew ?_) | (with_reducible refine Blk.new' ?_ ?_ <;> first | (with_reducible rfl) | (simp; done)) | (with_reducible refine Blk.alloc ?_ _) | (with_reducible refine RowIn.alloc ?_ _) | (with_reducible refine Below.alloc ?_ ?_ _) | (with_reducible apply Blk.set') | (with_reducible apply Blk.far') | (with_reducible refine RowIn.far' ?_ ?_ _) | (with_reducible refine Below.far' ?_ ?_ _) | rfl | omega | go_size)
  clear b1
  have kd_1 := zd_1.cell; have fd_1 := zd_1.frozen; have ld_1 := zd_1.lt
  go_wp2_with fail
  have hpw := pack_u8 bs
  refine (rsealed_ok A n c (pack bs) _ (by exact RowIn.row (lo := 0) (hi := w.heap.size) (by repeat' (first | (with_reducible assumption) | (with_reducible exact Below.refl _ _) | (with_reducible refine Blk.drewN ?_ _) | (with_reducible refine RowIn.drewN ?_ _) | (with_reducible refine below_drewN ?_ _) | (with_reducible refine Blk.drew ?_) | (with_reducible refine RowIn.drew ?_) | (with_reducible refine Below.drew ?_) | (with_reducible refine Blk.new' ?_ ?_ <;> first | (with_reducible rfl) | (simp; done)) | (with_reducible refine Blk.alloc ?_ _) | (with_reducible refine RowIn.alloc ?_ _) | (with_reducible refine Below.alloc ?_ ?_ _) | (with_reducible apply Blk.set') | (with_reducible apply Blk.far') | (with_reducible refine RowIn.far' ?_ ?_ _) | (with_reducible refine Below.far' ?_ ?_ _) | rfl | omega | go_size))) hpw (by omega)).mono ?_
  rintro e w2 ⟨B, d, rfl, own2, b2⟩
  have rs := own2.rowIn
  have hcap := own2.rowC.2
  replace rs := rs.mono (lo' := w.heap.size) (by go_size) (Nat.le_refl _)
  have s2 := b2.size
  try simp only [World.size_alloc, World.size_setCell, World.size_drew, size_drewN] at s2
  obtain ⟨zd_2, ra_2, rs_2, bb_2⟩ : Blk w2 (w.heap.size) 25 [.slice A n c, .int .i64 ((bs.length : Nat) : Int)] ∧ RowIn .u8 w2 (0) (w.heap.size) A n (pack bs) ∧ RowIn .u8 w2 (w.heap.size) (w2.heap.size) B (n + 4) (sealed (pack bs)) ∧ Below w.heap.size w w2 := by
    refine ⟨?_, ?_, ?_, ?_⟩
    all_goals repeat' (first | (with_reducible assumption) | (with_reducible exact Below.refl _ _) | (with_reducible refine Blk.after ?_ b2) | (with_reducible refine RowIn.belowS ?_ b2) | (with_reducible refine Below.after ?_ b2 ?_) | (with_reducible refine Blk.drewN ?_ _) | (with_reducible refine RowIn.drewN ?_ _) | (with_reducible refine below_drewN ?_ _) | (with_reducible refine Blk.drew ?_) | (with_reducible refine RowIn.drew ?_) | (with_reducible refine Below.drew ?_) | (with_reducible refine Blk.new' ?_ ?_ <;> first | (with_reducible rfl) | (simp; done)) | (with_reducible refine Blk.alloc ?_ _) | (with_reducible refine RowIn.alloc ?_ _) | (with_reducible refine Below.alloc ?_ ?_ _) | (with_reducible apply Blk.set') | (with_reducible apply Blk.far') | (with_reducible refine RowIn.far' ?_ ?_ _) | (with_reducible refine Below.far' ?_ ?_ _) | rfl | omega | go_size)
  clear zd_1 ra_1 bb_1 kd_1 fd_1 ld_1 b2
  have kd_2 := zd_2.cell; have fd_2 := zd_2.frozen; have ld_2 := zd_2.lt
  clear rs own2
  go_wp2
  go_ret2
  exact RetY.of rfl hcap rs_2 bb_2


set_option maxHeartbeats 400000 in
theorem rright_ok (b o m c : Nat) (l : List Int) (w : World) (ha : Row .u8 w (some ⟨b, o, none⟩) (m + 4) l) (hl : Within 0 255 l) (hn : m ≤ 41250) (hc : m + 4 ≤ c ∧ c ≤ 9223372036854775807) :
    Calls Try.prog 27 #[.slice (some ⟨b, o, none⟩) (m + 4) c] w fun e w' => e = .returned (.bool (decide (leB (Crc.sum (l.take m)) 4 = l.drop m))) ∧ Below w.heap.size w w' := by
  obtain ⟨rp, rt⟩ := RowIn.split4 ha
  have hlp := hl.take m
  obtain ⟨q, HQ⟩ : ∃ q, Hid (q = decide (leB (Crc.sum (l.take m)) 4 = l.drop m)) := ⟨_, Lib.hid rfl⟩
  have hmc : m ≤ c := by omega
  rw [← HQ.out]
  have HS : Hid (decide (sealed (l.take m) = l) = q) := by
    rw [HQ.out]
    refine Lib.hid (decide_eq_decide.2 ?_)
    have hlen : (l.take m).length = m := by rw [List.length_take, ha.len]; omega
    unfold sealed
    constructor
    · intro h
      have := congrArg (List.drop m) h
      rwa [List.drop_left' hlen] at this
    · intro h; rw [h, List.take_append_drop]
  go_enter Try.func27, Try.ntmps27
  go_wp2_with fail
  have s3 := run_str (P := Try.prog) (src := 22) (dst := 9) Try.underlying22 Try.underlying5 Try.underlying9 c ha.drew
  go_region_law (go_simp; go_at_call 34
                 refine (rsealed_ok (some ⟨b, o, none⟩) m c (l.take m) _ (by exact rp.row.drew) hlp (by omega)).mono ?_
                 rintro e w1 ⟨B, d, rfl, own1, b1⟩
                 have s1 := run_str (P := Try.prog) (src := 22) (dst := 9) Try.underlying22 Try.underlying5 Try.underlying9 d own1.row
                 have s2 := run_str (P := Try.prog) (src := 22) (dst := 9) Try.underlying22 Try.underlying5 Try.underlying9 c (ha.drew.below b1)
                 have tq : ((strOfNums (sealed (l.take m))).toList == (strOfNums l).toList) = q := by rw [str_eq (sealed_within hlp) hl]; exact HS.out)
  all_goals (go_wp2; go_ret; refine ⟨rfl, ?_⟩; exact Below.after (Below.drew (Below.refl _ _)) b1 (Nat.le_refl _))


set_option maxRecDepth 100000 in
set_option maxHeartbeats 1000000 in
theorem runp_ret (A : Option Addr) (n c : Nat) (l : List Int) (w : World) (ha : Row .u8 w A n l) (hl : Within 0 255 l) (hc : n ≤ c ∧ c ≤ 9223372036854775807) :
    Calls Try.prog 12 #[.slice A n c] w (RetB w (unpR l).1 (unpR l).2) := by
  have hri := ha.rowIn
  have hx := ha.len
  by_cases h1 : n < 4
  · have HR : Hid (unpR l = ([], 24)) := by unfold unpR; rw [if_pos (by omega)]; exact Lib.hid rfl
    clear hx
    have hlt : (n : Int) < 4 := by omega
    go_enter Try.func12, Try.ntmps12
    go_wp2_with fail
    go_wp2
    refine bodyPost_ret (v := .tuple #[.agg #[.slice none 0 0, .int .i64 0], .int .i64 24]) (by simp [results, Try.results12, go_sem]) rfl ?_
    rw [HR.out]
    refine RetB.of rfl (BitsIn.zero _ _ _) ?_
    repeat' (first | (with_reducible assumption) | (with_reducible exact Below.refl _ _) | (with_reducible refine Blk.drewN ?_ _) | (with_reducible refine RowIn.drewN ?_ _) | (with_reducible refine below_drewN ?_ _) | (with_reducible refine Blk.drew ?_) | (with_reducible refine RowIn.drew ?_) | (with_reducible refine Below.drew ?_) | (with_reducible refine Blk.new' ?_ ?_ <;> first | (with_reducible rfl) | (simp; done)) | (with_reducible refine Blk.alloc ?_ _) | (with_reducible refine RowIn.alloc ?_ _) | (with_reducible refine Below.alloc ?_ ?_ _) | (with_reducible apply Blk.set') | (with_reducible apply Blk.far') | (with_reducible refine RowIn.far' ?_ ?_ _) | (with_reducible refine Below.far' ?_ ?_ _) | rfl | omega | go_size)
  by_cases h2 : 41254 < n
  · have HR : Hid (unpR l = ([], 4)) := by unfold unpR; rw [if_neg (by omega), if_pos (by omega)]; exact Lib.hid rfl
    clear hx
    have hlt : ¬ (n : Int) < 4 := by omega
    have hgt : (41254 : Int) < (n : Int) := by omega
    go_enter Try.func12, Try.ntmps12
    go_wp2_with fail
    go_wp2
    refine bodyPost_ret (v := .tuple #[.agg #[.slice none 0 0, .int .i64 0], .int .i64 4]) (by simp [results, Try.results12, go_sem]) rfl ?_
    rw [HR.out]
    refine RetB.of rfl (BitsIn.zero _ _ _) ?_
    repeat' (first | (with_reducible assumption) | (with_reducible exact Below.refl _ _) | (with_reducible refine Blk.drewN ?_ _) | (with_reducible refine RowIn.drewN ?_ _) | (with_reducible refine below_drewN ?_ _) | (with_reducible refine Blk.drew ?_) | (with_reducible refine RowIn.drew ?_) | (with_reducible refine Below.drew ?_) | (with_reducible refine Blk.new' ?_ ?_ <;> first | (with_reducible rfl) | (simp; done)) | (with_reducible refine Blk.alloc ?_ _) | (with_reducible refine RowIn.alloc ?_ _) | (with_reducible refine Below.alloc ?_ ?_ _) | (with_reducible apply Blk.set') | (with_reducible apply Blk.far') | (with_reducible refine RowIn.far' ?_ ?_ _) | (with_reducible refine Below.far' ?_ ?_ _) | rfl | omega | go_size)
  obtain ⟨m, hmn⟩ : ∃ m, n = m + 4 := ⟨n - 4, by omega⟩
  have hm : m ≤ 41250 := by omega
  obtain ⟨b, o, rfl, _, _⟩ := ha.at (by omega)
  have hlt : ¬ (n : Int) < 4 := by omega
  have hgt : ¬ (41254 : Int) < (n : Int) := by omega
  have hsub : (n : Int) - 4 = (m : Int) := by omega
  have hmc : m ≤ c := by omega
  have hlp := hl.take m
  clear h1 h2
  have HR : Hid (unpR l = if leB (Crc.sum (l.take m)) 4 = l.drop m then (unpack (l.take m), 0) else ([], 22)) := by unfold unpR; rw [if_neg (by omega), if_neg (by omega), hx, hmn, Nat.add_sub_cancel]; exact Lib.hid rfl
  clear hx
  obtain ⟨q, HQ⟩ : ∃ q, Hid (q = decide (leB (Crc.sum (l.take m)) 4 = l.drop m)) := ⟨_, Lib.hid rfl⟩
  have rp : RowIn .u8 w 0 w.heap.size (some ⟨b, o, none⟩) m (l.take m) := by subst hmn; exact (RowIn.split4 ha).1
  have HC : ∀ w1, Below w.heap.size w w1 → Calls Try.prog 27 #[.slice (some ⟨b, o, none⟩) n c] w1 fun e w' => e = .returned (.bool q) ∧ Below w1.heap.size w1 w' := fun w1 hb => by rw [HQ.out]; subst hmn; exact rright_ok b o m c l w1 (ha.below hb) hl hm hc
  replace HC := Lib.hid HC
  replace hmn := Lib.hid hmn
  go_enter Try.func12, Try.ntmps12
  go_wp2_with fail
  refine (HC.out _ (by repeat' (first | (with_reducible assumption) | (with_reducible exact Below.refl _ _) | (with_reducible refine Blk.drewN ?_ _) | (with_reducible refine RowIn.drewN ?_ _) | (with_reducible refine below_drewN ?_ _) | (with_reducible refine Blk.drew ?_) | (with_reducible refine RowIn.drew ?_) | (with_reducible refine Below.drew ?_) | (with_reducible refine Blk.new' ?_ ?_ <;> first | (with_reducible rfl) | (simp; done)) | (with_reducible refine Blk.alloc ?_ _) | (with_reducible refine RowIn.alloc ?_ _) | (with_reducible refine Below.alloc ?_ ?_ _) | (with_reducible apply Blk.set') | (with_reducible apply Blk.far') | (with_reducible refine RowIn.far' ?_ ?_ _) | (with_reducible refine Below.far' ?_ ?_ _) | rfl | omega | go_size))).mono ?_
  rintro e w1 ⟨rfl, b1⟩
  clear HC
  have s1 := b1.size
  try simp only [World.size_alloc, World.size_setCell, World.size_drew, size_drewN] at s1
  obtain ⟨zr_1, ra_1, rp_1, bb_1⟩ : Blk w1 (w.heap.size) 25 [.slice none 0 0, .int .i64 0] ∧ RowIn .u8 w1 (0) (w.heap.size) (some ⟨b, o, none⟩) n l ∧ RowIn .u8 w1 (0) (w.heap.size) (some ⟨b, o, none⟩) m (l.take m) ∧ Below w.heap.size w w1 := by
    refine ⟨?_, ?_, ?_, ?_⟩
    all_goals repeat' (first | (with_reducible assumption) | (with_reducible exact Below.refl _ _) | (with_reducible refine Blk.after ?_ b1) | (with_reducible refine RowIn.belowS ?_ b1) | (with_reducible refine Below.after ?_ b1 ?_) | (with_reducible refine Blk.drewN ?_ _) | (with_reducible refine RowIn.drewN ?_ _) | (with_reducible refine below_drewN ?_ _) | (with_reducible refine Blk.drew ?_) | (with_reducible refine RowIn.drew ?_) | (with_reducible refine Below.drew ?_) | (with_reducible refine Blk.new' ?_ ?_ <;> first | (with_reducible rfl) | (simp; done)) | (with_reducible refine Blk.alloc ?_ _) | (with_reducible refine RowIn.alloc ?_ _) | (with_reducible refine Below.alloc ?_ ?_ _) | (with_reducible apply Blk.set') | (with_reducible apply Blk.far') | (with_reducible refine RowIn.far' ?_ ?_ _) | (with_reducible refine Below.far' ?_ ?_ _) | rfl | omega | go_size)
  clear b1
  have kr_1 := zr_1.cell; have fr_1 := zr_1.frozen; have lr_1 := zr_1.lt
  cases q
  · have HN : Hid (unpR l = ([], 22)) := by rw [HR.out, if_neg (of_decide_eq_false HQ.out.symm)]; exact Lib.hid rfl
    clear HR
    go_wp2
    refine bodyPost_ret (v := .tuple #[.agg #[.slice none 0 0, .int .i64 0], .int .i64 22]) (by simp [results, Try.results12, go_sem, kr_1]) rfl ?_
    rw [HN.out]
    refine RetB.of rfl (BitsIn.zero _ _ _) ?_
    repeat' (first | (with_reducible assumption) | (with_reducible exact Below.refl _ _) | (with_reducible refine Blk.drewN ?_ _) | (with_reducible refine RowIn.drewN ?_ _) | (with_reducible refine below_drewN ?_ _) | (with_reducible refine Blk.drew ?_) | (with_reducible refine RowIn.drew ?_) | (with_reducible refine Below.drew ?_) | (with_reducible refine Blk.new' ?_ ?_ <;> first | (with_reducible rfl) | (simp; done)) | (with_reducible refine Blk.alloc ?_ _) | (with_reducible refine RowIn.alloc ?_ _) | (with_reducible refine Below.alloc ?_ ?_ _) | (with_reducible apply Blk.set') | (with_reducible apply Blk.far') | (with_reducible refine RowIn.far' ?_ ?_ _) | (with_reducible refine Below.far' ?_ ?_ _) | rfl | omega | go_size)
  · have HN : Hid (unpR l = (unpack (l.take m), 0)) := by rw [HR.out, if_pos (of_decide_eq_true HQ.out.symm)]; exact Lib.hid rfl
    have HO : Hid (ofR (l.take m) = (unpack (l.take m), 0)) := by unfold ofR; rw [if_neg (by rw [rp_1.len]; omega)]; exact Lib.hid rfl
    clear HR
    have hcm : m ≤ c ∧ c ≤ 9223372036854775807 := by omega
    go_wp2_with fail
    have HD := rof_ret (some ⟨b, o, none⟩) m c (l.take m) w1 rp_1.row hlp hcm
    rw [HO.out] at HD
    replace HD := Lib.hid HD
    refine (HD.out).mono ?_
    rintro e w2 ⟨Ay, my, cy, xy, rfl, hcy, ry, HXy, b2⟩
    replace ry := ry.mono (lo' := w1.heap.size + 0) (by go_size) (Nat.le_refl _)
    have s2 := b2.size
    try simp only [World.size_alloc, World.size_setCell, World.size_drew, size_drewN] at s2
    obtain ⟨zr_2, ry_2, bb_2⟩ : Blk w2 (w.heap.size) 25 [.slice none 0 0, .int .i64 0] ∧ RowIn .u8 w2 (w1.heap.size + 0) (w2.heap.size) Ay my (pack xy) ∧ Below w.heap.size w w2 := by
      refine ⟨?_, ?_, ?_⟩
      all_goals repeat' (first | (with_reducible assumption) | (with_reducible exact Below.refl _ _) | (with_reducible refine Blk.after ?_ b2) | (with_reducible refine RowIn.belowS ?_ b2) | (with_reducible refine Below.after ?_ b2 ?_) | (with_reducible refine Blk.drewN ?_ _) | (with_reducible refine RowIn.drewN ?_ _) | (with_reducible refine below_drewN ?_ _) | (with_reducible refine Blk.drew ?_) | (with_reducible refine RowIn.drew ?_) | (with_reducible refine Below.drew ?_) | (with_reducible refine Blk.new' ?_ ?_ <;> first | (with_reducible rfl) | (simp; done)) | (with_reducible refine Blk.alloc ?_ _) | (with_reducible refine RowIn.alloc ?_ _) | (with_reducible refine Below.alloc ?_ ?_ _) | (with_reducible apply Blk.set') | (with_reducible apply Blk.far') | (with_reducible refine RowIn.far' ?_ ?_ _) | (with_reducible refine Below.far' ?_ ?_ _) | rfl | omega | go_size)
    clear zr_1 ra_1 rp_1 bb_1 kr_1 fr_1 lr_1 b2
    have kr_2 := zr_2.cell; have fr_2 := zr_2.frozen; have lr_2 := zr_2.lt
    clear ry
    go_wp2
    have zf : Blk (((w2.setCell ⟨w.heap.size, 0, none⟩ (.slice Ay my cy)).setCell ⟨w.heap.size, 1, none⟩ (.int .i64 ((xy.length : Nat) : Int))).alloc (.cells #[.slice Ay my cy, .int .i64 ((xy.length : Nat) : Int)] 25)) (w.heap.size) 25 [.slice Ay my cy, .int .i64 ((xy.length : Nat) : Int)] := by
      repeat' (first | (with_reducible assumption) | (with_reducible exact Below.refl _ _) | (with_reducible refine Blk.drewN ?_ _) | (with_reducible refine RowIn.drewN ?_ _) | (with_reducible refine below_drewN ?_ _) | (with_reducible refine Blk.drew ?_) | (with_reducible refine RowIn.drew ?_) | (with_reducible refine Below.drew ?_) | (with_reducible refine Blk.new' ?_ ?_ <;> first | (with_reducible rfl) | (simp; done)) | (with_reducible refine Blk.alloc ?_ _) | (with_reducible refine RowIn.alloc ?_ _) | (with_reducible refine Below.alloc ?_ ?_ _) | (with_reducible apply Blk.set') | (with_reducible apply Blk.far') | (with_reducible refine RowIn.far' ?_ ?_ _) | (with_reducible refine Below.far' ?_ ?_ _) | rfl | omega | go_size)
    have kf := zf.cell
    refine bodyPost_ret (v := .tuple #[.agg #[.slice Ay my cy, .int .i64 ((xy.length : Nat) : Int)], .int .i64 0]) (by simp [results, Try.results12, go_sem, kf]) rfl ?_
    rw [HN.out]
    refine RetB.of rfl ⟨Ay, my, cy, by rw [← HXy.out], hcy, ?_⟩ ?_
    · rw [← HXy.out]
      refine RowIn.mono (lo := w1.heap.size + 0) (hi := w2.heap.size) ?_ (by go_size) (by go_size)
      repeat' (first | (with_reducible assumption) | (with_reducible exact Below.refl _ _) | (with_reducible refine Blk.drewN ?_ _) | (with_reducible refine RowIn.drewN ?_ _) | (with_reducible refine below_drewN ?_ _) | (with_reducible refine Blk.drew ?_) | (with_reducible refine RowIn.drew ?_) | (with_reducible refine Below.drew ?_) | (with_reducible refine Blk.new' ?_ ?_ <;> first | (with_reducible rfl) | (simp; done)) | (with_reducible refine Blk.alloc ?_ _) | (with_reducible refine RowIn.alloc ?_ _) | (with_reducible refine Below.alloc ?_ ?_ _) | (with_reducible apply Blk.set') | (with_reducible apply Blk.far') | (with_reducible refine RowIn.far' ?_ ?_ _) | (with_reducible refine Below.far' ?_ ?_ _) | rfl | omega | go_size)
    · repeat' (first | (with_reducible assumption) | (with_reducible exact Below.refl _ _) | (with_reducible refine Blk.drewN ?_ _) | (with_reducible refine RowIn.drewN ?_ _) | (with_reducible refine below_drewN ?_ _) | (with_reducible refine Blk.drew ?_) | (with_reducible refine RowIn.drew ?_) | (with_reducible refine Below.drew ?_) | (with_reducible refine Blk.new' ?_ ?_ <;> first | (with_reducible rfl) | (simp; done)) | (with_reducible refine Blk.alloc ?_ _) | (with_reducible refine RowIn.alloc ?_ _) | (with_reducible refine Below.alloc ?_ ?_ _) | (with_reducible apply Blk.set') | (with_reducible apply Blk.far') | (with_reducible refine RowIn.far' ?_ ?_ _) | (with_reducible refine Below.far' ?_ ?_ _) | rfl | omega | go_size)


theorem rbgreat_yes (A : Option Addr) (n c : Nat) (w : World) (h : 300 < n ∧ n ≤ 41254 ∨ 41300 < n) :
    Calls Try.prog 10 #[.slice A n c] w fun e w' => e = .returned (.bool true) ∧ w = w' := by
  rcases h with ⟨h1, h2⟩ | h
  · have t1 : decide ((300 : Int) < (n : Int)) = true := decide_eq_true (by omega)
    have t2 : decide ((n : Int) ≤ 41254) = true := decide_eq_true (by omega)
    go_enter Try.func10, Try.ntmps10
    go_wp2
    go_ret
    exact ⟨rfl, rfl⟩
  · have t1 : decide ((300 : Int) < (n : Int)) = true := decide_eq_true (by omega)
    have t2 : decide ((n : Int) ≤ 41254) = false := decide_eq_false (by omega)
    have t3 : decide ((41300 : Int) < (n : Int)) = true := decide_eq_true (by omega)
    go_enter Try.func10, Try.ntmps10
    go_wp2
    go_ret
    exact ⟨rfl, rfl⟩
theorem rbgreat_no (A : Option Addr) (n c : Nat) (w : World) (h : ¬ (300 < n ∧ n ≤ 41254 ∨ 41300 < n)) :
    Calls Try.prog 10 #[.slice A n c] w fun e w' => e = .returned (.bool false) ∧ w = w' := by
  have t3 : decide ((41300 : Int) < (n : Int)) = false := decide_eq_false (by omega)
  by_cases h1 : 300 < n
  · have t1 : decide ((300 : Int) < (n : Int)) = true := decide_eq_true (by omega)
    have t2 : decide ((n : Int) ≤ 41254) = false := decide_eq_false (by omega)
    clear h
    go_enter Try.func10, Try.ntmps10
    go_wp2
    go_ret
    exact ⟨rfl, rfl⟩
  · have t1 : decide ((300 : Int) < (n : Int)) = false := decide_eq_false (by omega)
    clear h
    go_enter Try.func10, Try.ntmps10
    go_wp2
    go_ret
    exact ⟨rfl, rfl⟩


end Go.Proofs.Ytncmnfnminjchaa
