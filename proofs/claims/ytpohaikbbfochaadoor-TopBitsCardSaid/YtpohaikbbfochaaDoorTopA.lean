/-
  Contracts of fold, of crc64 and of le.At.
-/
import Derived.Test.YtpohaikbbfochaaDoorTopP
import Derived.Test.YtpohaikbbfochaaDoorCrcQ
namespace Go.Proofs.YtpohaikbbfochaaDoor
open Go.RowKit Cad Cad.Bit Cad.Le Cad.Top
set_option linter.unusedVariables false
set_option linter.unusedSimpArgs false

theorem fold_word (x : Int) (hx : -2147483648 ≤ x ∧ x ≤ 2147483647) : bits .xor .u32 (x % 4294967296 * 2 % 4294967296) (x / 2147483648 % 4294967296) = ((foldZ x : Nat) : Int) := by
  by_cases h : 0 ≤ x
  · have e1 : x % 4294967296 * 2 % 4294967296 = (((2 * x).toNat : Nat) : Int) := by omega
    have e2 : x / 2147483648 % 4294967296 = ((0 : Nat) : Int) := by omega
    rw [e1, e2, xor_u32 _ _ (by omega) (by omega), Nat.xor_zero]
    unfold foldZ
    rw [if_pos h]
  · have e1 : x % 4294967296 * 2 % 4294967296 = (((2 * x + 4294967296).toNat : Nat) : Int) := by omega
    have e2 : x / 2147483648 % 4294967296 = ((4294967295 : Nat) : Int) := by omega
    rw [e1, e2, xor_u32 _ _ (by omega) (by omega), Nat.xor_comm, not_nat _ (by omega)]
    unfold foldZ
    rw [if_neg h]
    omega
theorem fold_ok (x : Int) (w : World) (hx : -2147483648 ≤ x ∧ x ≤ 2147483647) :
    Calls Tryd.prog 6 #[.int .i32 x] w fun e w' => e = .returned (.int .u32 (foldZ x : Nat)) ∧ w = w' := by
  go_enter Tryd.func6, Tryd.ntmps6
  go_wp2
  go_ret
  exact ⟨ret_int (fold_word x hx), rfl⟩

theorem xor_i32 (k m : Nat) (hk : k < 4294967296) (hm : m < 4294967296) (y : Int) (hy : (BitVec.ofInt 32 y).toNat = m) : bits .xor .i32 (k : Int) y = IntKind.i32.wrap ((k ^^^ m : Nat) : Int) := by
  show IntKind.i32.wrap ((BitVec.ofInt 32 (k : Int) ^^^ BitVec.ofInt 32 y).toNat : Int) = _
  have h1 : (BitVec.ofInt 32 (k : Int)).toNat = k := by
    rw [BitVec.ofInt_natCast, BitVec.toNat_ofNat]; exact Nat.mod_eq_of_lt (by omega)
  rw [BitVec.toNat_xor, h1, hy]
theorem back_word (x : Int) (n : Nat) (hx : -2147483648 ≤ x ∧ x ≤ 2147483647) (hn : n = foldZ x) : bits .xor .i32 ((n : Int) / 2) (wrap32 (-wrap32 (bits .and .u32 (n : Int) 1))) = x := by
  have hlt : n < 4294967296 := by rw [hn]; exact foldZ_lt hx
  rw [and1_u32 n hlt]
  unfold foldZ at hn
  by_cases h : 0 ≤ x
  · rw [if_pos h] at hn
    have e1 : (n : Int) / 2 = ((n / 2 : Nat) : Int) := by omega
    have e2 : wrap32 (-wrap32 ((n % 2 : Nat) : Int)) = 0 := by
      have : n % 2 = 0 := by omega
      rw [this]; unfold wrap32; omega
    rw [e1, e2, xor_i32 _ 0 (by omega) (by omega) 0 rfl, Nat.xor_zero, IntKind.wrap_i32]
    omega
  · rw [if_neg h] at hn
    have e1 : (n : Int) / 2 = ((n / 2 : Nat) : Int) := by omega
    have e2 : wrap32 (-wrap32 ((n % 2 : Nat) : Int)) = -1 := by
      have : n % 2 = 1 := by omega
      rw [this]; unfold wrap32; omega
    rw [e1, e2, xor_i32 _ 4294967295 (by omega) (by omega) (-1) rfl, Nat.xor_comm, not_nat _ (by omega), IntKind.wrap_i32]
    omega
theorem back_ok (x : Int) (n : Nat) (w : World) (hx : -2147483648 ≤ x ∧ x ≤ 2147483647) (hn : n = foldZ x) :
    Calls Tryd.prog 18 #[.int .u32 (n : Int)] w fun e w' => e = .returned (.int .i32 x) ∧ w = w' := by
  have hw := back_word x n hx hn
  have hlt : n < 4294967296 := by rw [hn]; exact foldZ_lt hx
  have HW := Lib.hid hw
  clear hw hn
  go_enter Tryd.func18, Tryd.ntmps18
  go_wp2
  go_ret
  exact ⟨ret_int HW.out, rfl⟩

theorem or_u64 (a b : Nat) (ha : a < 18446744073709551616) (hb : b < 18446744073709551616) : bits .or .u64 (a : Int) (b : Int) = ((a ||| b : Nat) : Int) := by
  show IntKind.u64.wrap ((BitVec.ofInt 64 (a : Int) ||| BitVec.ofInt 64 (b : Int)).toNat : Int) = _
  have h1 : ∀ m : Nat, m < 18446744073709551616 → (BitVec.ofInt 64 (m : Int)).toNat = m := fun m h => by
    rw [BitVec.ofInt_natCast, BitVec.toNat_ofNat]; exact Nat.mod_eq_of_lt (by omega)
  have h2 : a ||| b < 18446744073709551616 := Nat.or_lt_two_pow (n := 64) ha hb
  rw [BitVec.toNat_or, h1 a ha, h1 b hb, IntWalk.u64_in _ (by omega)]
theorem xor_u64 (x y : Nat) (hx : x < 18446744073709551616) (hy : y < 18446744073709551616) : bits .xor .u64 (x : Int) (y : Int) = ((x ^^^ y : Nat) : Int) := by
  show IntKind.u64.wrap ((BitVec.ofInt 64 (x : Int) ^^^ BitVec.ofInt 64 (y : Int)).toNat : Int) = _
  have h1 : ∀ m : Nat, m < 18446744073709551616 → (BitVec.ofInt 64 (m : Int)).toNat = m := fun m h => by
    rw [BitVec.ofInt_natCast, BitVec.toNat_ofNat]; exact Nat.mod_eq_of_lt (by omega)
  have h2 : x ^^^ y < 18446744073709551616 := Nat.xor_lt_two_pow (n := 64) hx hy
  rw [BitVec.toNat_xor, h1 x hx, h1 y hy, IntWalk.u64_in _ (by omega)]
theorem value_word (n j : Nat) (hj : j < 8) (hn : n < 18446744073709551616) : bits .or .u64 ((n % 2 ^ (8 * j) : Nat) : Int) (((n / 2 ^ (8 * j) % 256 : Nat) : Int) * 2 ^ (8 * j) % 18446744073709551616) = ((n % 2 ^ (8 * (j + 1)) : Nat) : Int) := by
  obtain ⟨P, hP⟩ : ∃ P, P = 2 ^ (8 * j) := ⟨_, rfl⟩
  have hP1 : 0 < P := by rw [hP]; exact Nat.pow_pos (by decide)
  have hP2 : P * 256 ≤ 18446744073709551616 := by
    rw [hP, show (256 : Nat) = 2 ^ 8 by decide, ← Nat.pow_add]
    exact Nat.le_trans (Nat.pow_le_pow_right (by decide) (show 8 * j + 8 ≤ 64 by omega)) (by decide)
  obtain ⟨y, hy⟩ : ∃ y, y = n / 2 ^ (8 * j) % 256 := ⟨_, rfl⟩
  have hy2 : y < 256 := by rw [hy]; omega
  have hm : y * P < 18446744073709551616 := Nat.lt_of_lt_of_le (by rw [Nat.mul_comm]; exact Nat.mul_lt_mul_of_pos_left hy2 hP1) hP2
  have e1 : ((y : Nat) : Int) * 2 ^ (8 * j) % 18446744073709551616 = ((y * P : Nat) : Int) := by
    rw [pow_cast, ← hP, ← Int.natCast_mul, Int.emod_eq_of_lt (by omega) (by omega)]
  rw [← hy, e1, or_u64 _ _ (Nat.lt_of_le_of_lt (Nat.mod_le _ _) hn) hm]
  have e2 : n % 2 ^ (8 * (j + 1)) = 2 ^ (8 * j) * y + n % 2 ^ (8 * j) := by
    rw [Nat.mul_succ, Nat.pow_add, Nat.mod_mul, hy, show (2 : Nat) ^ 8 = 256 by decide, Nat.add_comm]
  rw [e2, Nat.or_comm, Nat.mul_comm y P, hP, Nat.two_pow_add_eq_or_of_lt (Nat.mod_lt _ (by rw [← hP]; exact hP1))]

set_option maxHeartbeats 400000 in
theorem levalue_ok (n m : Nat) (A : Option Addr) (c : Nat) (w : World) (h1 : 1 ≤ m) (h8 : m ≤ 8) (hn : n < 18446744073709551616) (ha : Row .u8 w A m (leB n m)) :
    Calls Tryd.prog 44 #[.slice A m c] w fun e w' => e = .returned (.tuple #[.int .u64 ((n % 2 ^ (8 * m) : Nat) : Int), .int .i64 0]) ∧ w = w' := by
  have a1 : ¬ (m : Int) < 1 := by omega
  have a2 : ¬ (8 : Int) < (m : Int) := by omega
  go_enter Tryd.func44, Tryd.ntmps44
  go_wp2_with fail
  go_loopg [4, 17] m (fun k u v wr => ∃ (j z : Nat), j + k = m ∧ u = .int .u64 (z : Nat) ∧ v = .int .i64 (j : Nat) ∧ Hid (z = n % 2 ^ (8 * j)) ∧ z < 18446744073709551616 ∧ wr = w)
  case atStart => exact ⟨0, 0, by omega, rfl, rfl, Lib.hid (by rw [Nat.mul_zero, Nat.pow_zero, Nat.mod_one]), by omega, rfl⟩
  case round =>
    obtain ⟨j, z, hj, rfl, rfl, HZ, hz, rfl⟩ := hrel
    by_cases hlt : j < m
    · have hlt1 : (j : Int) < (m : Int) := by omega
      obtain ⟨b, o, rfl, hbk, hc⟩ := ha.at (by omega)
      obtain ⟨y, HY⟩ : ∃ y : Nat, Hid (y = n / 2 ^ (8 * j) % 256) := ⟨_, Lib.hid rfl⟩
      have hy : y < 256 := by rw [HY.out]; omega
      have c0 : wr.cell? ⟨b, o + j, none⟩ = some (.int .u8 (y : Int)) := by rw [hc j hlt, nth_leB hlt, HY.out]
      have HV : Hid (bits .or .u64 (z : Int) (IntKind.u64.wrap ((y : Int) * 2 ^ (8 * j))) = ((n % 2 ^ (8 * (j + 1)) : Nat) : Int)) := Lib.hid (by rw [HZ.out, HY.out, IntKind.wrap_u64]; exact value_word n j (by omega) hn)
      have ht : (8 * (j : Int)).toNat = 8 * j := by omega
      have h64 : (8 * (j : Int)) < 64 := by omega
      clear hc
      go_wp2_with fail
      go_roundg (m - (j + 1))
      case measure => omega
      case rel => exact ⟨j + 1, n % 2 ^ (8 * (j + 1)), by omega, by rw [HV.out], by go_num, Lib.hid rfl, Nat.lt_of_le_of_lt (Nat.mod_le _ _) hn, rfl⟩
    · obtain rfl : j = m := by omega
      go_wp2
      go_ret2
      exact ⟨by rw [HZ.out]; rfl, rfl⟩

theorem row_at {w : World} {A : Option Addr} {n : Nat} {l : List Int} (h : Row .u8 w A n l) {i k : Nat} (hi : i + k ≤ n) (hk : 0 < k) : ∃ b o, A = some ⟨b, o, none⟩ ∧ Row .u8 w (some ⟨b, o + i, none⟩) k ((l.drop i).take k) := by
  obtain ⟨b, o, rfl, hb, hc⟩ := h.at (by omega)
  refine ⟨b, o, rfl, by rw [List.length_take, List.length_drop, h.len]; omega, fun _ => ⟨b, o + i, rfl, hb, fun j hj => ?_⟩⟩
  rw [nth_take hj, nth_drop, Nat.add_assoc, hc (i + j) (by omega)]
set_option maxHeartbeats 400000 in
theorem leat_ok (n : Nat) (A : Option Addr) (m c i k : Nat) (l : List Int) (w : World) (ha : Row .u8 w A m l) (hc : m ≤ c ∧ c ≤ 9223372036854775807) (h1 : 1 ≤ k) (h8 : k ≤ 8) (hik : i + k ≤ m) (hn : n < 2 ^ (8 * k)) (hl : (l.drop i).take k = leB n k) :
    Calls Tryd.prog 16 #[.slice A m c, .int .i64 (i : Int), .int .i64 (k : Int)] w fun e w' => e = .returned (.tuple #[.int .u64 (n : Int), .int .i64 0]) ∧ w = w' := by
  have hn64 : n < 18446744073709551616 := Nat.lt_of_lt_of_le hn (Nat.le_trans (Nat.pow_le_pow_right (by decide) (show 8 * k ≤ 64 by omega)) (by decide))
  obtain ⟨b, o, rfl, hr⟩ := row_at ha hik h1
  rw [hl] at hr
  have hv := fun c' => levalue_ok n k _ c' w h1 h8 hn64 hr
  rw [Nat.mod_eq_of_lt hn] at hv
  have HV := Lib.hid hv
  have a1 : ¬ (k : Int) < 1 := by omega
  have a2 : ¬ (8 : Int) < (k : Int) := by omega
  have a3 : ¬ (i : Int) < 0 := by omega
  have a4 : ¬ ((m : Int) - (k : Int) < (i : Int)) := by omega
  have a5 : (i : Int) + (k : Int) ≤ (c : Int) := by omega
  clear hv hl hr hn
  go_enter Tryd.func16, Tryd.ntmps16
  go_wp2_with fail
  refine (HV.out _).mono ?_
  rintro e _ ⟨rfl, rfl⟩
  go_wp2
  go_ret2
  exact ⟨rfl, rfl⟩

def tabToQ (j : Nat) : List Int := ((List.range j).map fun i => (Crc64.tab i : Int)) ++ zeros (256 - j)
theorem tabToQ_len {j : Nat} (h : j ≤ 256) : (tabToQ j).length = 256 := by
  unfold tabToQ; rw [List.length_append, List.length_map, List.length_range, zeros_len]; omega
theorem nth_tabToQ {i j : Nat} : nth (tabToQ j) i = if i < j then (Crc64.tab i : Int) else 0 := by
  unfold tabToQ
  by_cases h : i < j
  · rw [nth_append_left (by simpa using h), if_pos h, nth_map_range h]
  · rw [nth_append_right (by simpa using Nat.not_lt.1 h), if_neg h, nth_zeros]
theorem tabToQ_set {j : Nat} (h : j < 256) : (tabToQ j).set j (Crc64.tab j : Int) = tabToQ (j + 1) := by
  refine list_ext (by rw [List.length_set, tabToQ_len (by omega), tabToQ_len (by omega)]) fun i hi => ?_
  rw [nth_set (by rw [tabToQ_len (by omega)]; exact h), nth_tabToQ, nth_tabToQ]
  by_cases e : j = i
  · subst e; simp
  · rw [if_neg e]
    by_cases h2 : i < j
    · rw [if_pos h2, if_pos (by omega)]
    · rw [if_neg h2, if_neg (by omega)]
theorem zero256q : ∀ w, (zeroValue 116).run Tryd.prog w = .ok (.agg (zeroRow .u64 256)) w := (zero_of_info (n := 256) (by kernel_rfl)).1
theorem step_wordQ (c : Nat) (h : c < 18446744073709551616) : bits .xor .u64 (IntKind.u64.wrap ((c : Int) * 2)) (4823603603198064275 * ((c : Int) / 9223372036854775808)) = ((Crc64.step c : Nat) : Int) := by
  rw [IntKind.wrap_u64]
  have e1 : (c : Int) * 2 % 18446744073709551616 = ((c * 2 % 18446744073709551616 : Nat) : Int) := by omega
  have e2 : 4823603603198064275 * ((c : Int) / 9223372036854775808) = ((4823603603198064275 * (c / 9223372036854775808) : Nat) : Int) := by omega
  rw [e1, e2, xor_u64 _ _ (Nat.mod_lt _ (by decide)) (by omega)]
  rfl
set_option maxHeartbeats 1000000 in
theorem tableQ_ok (w : World) :
    Calls Tryd.prog 40 #[] w fun e w' => e = .returned (.pointer (some ⟨w.heap.size, 0, none⟩)) ∧ Blk w' w.heap.size 116 ((tabToQ 256).map (Value.int .u64)) ∧ Below w.heap.size w w' := by
  have hz := zero256q
  go_enter Tryd.func40, Tryd.ntmps40
  go_wp2_with fail
  go_loopg [3, 5] 256 (fun r v i wr => ∃ j : Nat, j + r = 256 ∧ i = .int .i64 (j : Int) ∧ Blk wr w.heap.size 116 ((tabToQ j).map (Value.int .u64)) ∧ Below w.heap.size w wr)
  case atStart => exact ⟨0, rfl, rfl, Blk.new w _ _, (Below.refl _ _).alloc (Nat.le_refl _) _⟩
  case round =>
    obtain ⟨j, hj, rfl, hb, hw⟩ := hrel
    by_cases hlt : j < 256
    · have hlt' : (j : Int) < 256 := by omega
      have hsh : IntKind.u64.wrap ((j : Int) * 2 ^ 56) = ((j * 72057594037927936 : Nat) : Int) := by rw [IntWalk.u64_in _ (by omega)]; omega
      have hsh2 : (j : Int) * 72057594037927936 % 18446744073709551616 = ((j * 72057594037927936 : Nat) : Int) := by omega
      go_wp2_with fail
      go_loopg [3, 4, 11] 8 (fun r v lo i wr' => ∃ k c : Nat, k + r = 8 ∧ i = .int .i64 (k : Int) ∧ v = .int .u64 (c : Int) ∧ Hid (c = Crc64.steps k (j * 72057594037927936)) ∧ wr' = wr)
      case atStart => exact ⟨0, j * 72057594037927936, rfl, rfl, by first | rfl | (congr 1; omega), Lib.hid rfl, rfl⟩
      case round =>
        obtain ⟨k, c, hk, rfl, rfl, HC, rfl⟩ := hrel
        have hc : c < 18446744073709551616 := by rw [HC.out]; exact Crc64.steps_lt _ (by omega)
        by_cases hlt2 : k < 8
        · have hlt2' : (k : Int) < 8 := by omega
          go_wp2
          go_roundg (8 - (k + 1))
          case measure => omega
          case rel => refine ⟨k + 1, Crc64.step c, by omega, by go_num, by rw [step_wordQ c hc], Lib.hid (by rw [HC.out, Crc64.steps_succ]), rfl⟩
        · obtain rfl : k = 8 := by omega
          have kc : wr.cell? ⟨w.heap.size, j, none⟩ = some (.int .u64 0) := by rw [hb.cell, getElem?_map_nth (by rw [tabToQ_len (by omega)]; exact hlt), nth_tabToQ, if_neg (by omega)]
          have kf : wr.frozen? ⟨w.heap.size, j, none⟩ = false := hb.frozen j
          have HB := Lib.hid hb
          clear hb
          go_wp2
          go_roundg (256 - (j + 1))
          case measure => omega
          case rel =>
            refine ⟨j + 1, by omega, by go_num, ?_, hw.setCell (p := ⟨w.heap.size, j, none⟩) (Nat.le_refl _) _⟩
            rw [← tabToQ_set hlt, ← map_set, show Crc64.tab j = c from HC.out.symm]
            exact HB.out.set j _
    · obtain rfl : j = 256 := by omega
      go_wp2
      go_ret
      exact ⟨rfl, hb, hw⟩
theorem next_wordQ (s b : Nat) (hs : s < 18446744073709551616) (hb : b < 256) : bits .xor .u64 (IntKind.u64.wrap ((s : Int) * 256)) ((Crc64.tab (s / 72057594037927936 ^^^ b) : Nat) : Int) = ((Crc64.byte s b : Nat) : Int) := by
  rw [IntKind.wrap_u64]
  have e1 : (s : Int) * 256 % 18446744073709551616 = ((s * 256 % 18446744073709551616 : Nat) : Int) := by omega
  rw [e1, xor_u64 _ _ (Nat.mod_lt _ (by decide)) (Crc64.tab_lt (by have := Nat.xor_lt_two_pow (n := 8) (show s / 72057594037927936 < 2 ^ 8 by omega) hb; omega))]
  rfl
set_option maxHeartbeats 1000000 in
theorem behindQ_ok (g s : Nat) (A : Option Addr) (n c : Nat) (l : List Int) (w : World) (hg : Blk w g 116 ((tabToQ 256).map (Value.int .u64))) (ha : Row .u8 w A n l) (hl : Within 0 255 l) (hn : n ≤ 100000) (hs : s < 18446744073709551616) :
    Calls Tryd.prog 39 #[.pointer (some ⟨g, 0, none⟩), .int .u64 (s : Int), .slice A n c] w fun e w' => e = .returned (.int .u64 ((Crc64.bytes s l : Nat) : Int)) ∧ w = w' := by
  have HL := Lib.hid ha.len
  have HB := Lib.hid hg
  have hsz := hg.lt
  clear hg
  go_enter Tryd.func39, Tryd.ntmps39
  go_wp2_with fail
  go_loopg [1, 11] n (fun r v i wr => ∃ k x : Nat, k + r = n ∧ i = .int .i64 (k : Int) ∧ v = .int .u64 (x : Int) ∧ Hid (x = Crc64.bytes s (l.take k)) ∧ wr = w)
  case atStart => exact ⟨0, s, by omega, rfl, rfl, Lib.hid rfl, rfl⟩
  case round =>
    obtain ⟨k, x, hk, rfl, rfl, HX, rfl⟩ := hrel
    have hx : x < 18446744073709551616 := by rw [HX.out]; exact Crc64.bytes_lt hs (hl.take k)
    by_cases hlt : k < n
    · have hlt' : (k : Int) < (n : Int) := by omega
      obtain ⟨b, o, rfl, hbk, hc⟩ := ha.at (by omega)
      have hy := hl.nth (by decide) (by decide) k
      obtain ⟨y, hye⟩ : ∃ y : Nat, nth l k = (y : Int) := ⟨(nth l k).toNat, by omega⟩
      have hy8 : y < 256 := by omega
      have c1 : wr.cell? ⟨b, o + k, none⟩ = some (.int .u8 (y : Int)) := by rw [hc k hlt, hye]
      obtain ⟨z, HZ⟩ : ∃ z, Hid (z = x / 72057594037927936) := ⟨_, Lib.hid rfl⟩
      have hz8 : z < 256 := by rw [HZ.out]; omega
      have hzx : (x : Int) / 72057594037927936 = (z : Int) := by rw [HZ.out]; omega
      obtain ⟨q, HQ⟩ : ∃ q, Hid (q = z ^^^ y) := ⟨_, Lib.hid rfl⟩
      have hq : q < 256 := by rw [HQ.out]; exact Nat.xor_lt_two_pow (n := 8) hz8 hy8
      have hqe : bits .xor .u8 (z : Int) (y : Int) = (q : Int) := by rw [HQ.out, xor_u8 _ _ hz8 hy8]
      obtain ⟨t, HT⟩ : ∃ t : Nat, Hid (t = Crc64.tab q) := ⟨_, Lib.hid rfl⟩
      have ht : t < 18446744073709551616 := by rw [HT.out]; exact Crc64.tab_lt hq
      have c2 : wr.cell? ⟨g, q, none⟩ = some (.int .u64 (t : Int)) := by
        rw [HB.out.cell, getElem?_map_nth (by rw [tabToQ_len (by omega)]; exact hq), nth_tabToQ, if_pos hq, HT.out]
      have HN : Hid (bits .xor .u64 (IntKind.u64.wrap ((x : Int) * 256)) (t : Int) = ((Crc64.byte x y : Nat) : Int)) := by
        rw [HT.out, HQ.out, HZ.out, next_wordQ x y hx hy8]; exact Lib.hid rfl
      clear hc hy
      have HY := Lib.hid hye
      clear hye
      go_wp2
      go_roundg (n - (k + 1))
      case measure => omega
      case rel =>
        refine ⟨k + 1, Crc64.byte x y, by omega, by go_num, by rw [HN.out], Lib.hid ?_, rfl⟩
        rw [Crc64.bytes_next (by rw [HL.out]; exact hlt), ← HX.out, HY.out, Int.toNat_natCast]
    · obtain rfl : k = n := by omega
      have HE : Hid (x = Crc64.bytes s l) := by rw [HX.out, List.take_of_length_le (by rw [HL.out]; exact Nat.le_refl _)]; exact Lib.hid rfl
      go_wp2
      go_ret
      exact ⟨ret_int (by rw [HE.out]), rfl⟩
set_option maxHeartbeats 400000 in
theorem nextQ_ok (s : Nat) (A : Option Addr) (n c : Nat) (l : List Int) (w : World) (ha : Row .u8 w A n l) (hl : Within 0 255 l) (hn : n ≤ 100000) (hs : s < 18446744073709551616) :
    Calls Tryd.prog 10 #[.int .u64 (s : Int), .slice A n c] w fun e w' => e = .returned (.tuple #[.int .u64 ((Crc64.bytes s l : Nat) : Int), .int .i64 0]) ∧ Below w.heap.size w w' := by
  go_enter Tryd.func10, Tryd.ntmps10
  go_wp2_with fail
  refine (tableQ_ok w).mono ?_
  rintro e w1 ⟨rfl, hb, hw⟩
  go_wp2_with fail
  refine (behindQ_ok w.heap.size s A n c l w1 hb (ha.below hw) hl hn hs).mono ?_
  rintro e _ ⟨rfl, rfl⟩
  go_wp2
  go_ret2
  exact ⟨rfl, hw⟩
theorem sumQ_ok (A : Option Addr) (n c : Nat) (l : List Int) (w : World) (ha : Row .u8 w A n l) (hl : Within 0 255 l) (hn : n ≤ 100000) :
    Calls Tryd.prog 14 #[.slice A n c] w fun e w' => e = .returned (.tuple #[.int .u64 ((Crc64.bytes 0 l : Nat) : Int), .int .i64 0]) ∧ Below w.heap.size w w' := by
  go_enter Tryd.func14, Tryd.ntmps14
  go_wp2_with fail
  refine (nextQ_ok 0 A n c l w ha hl hn (by omega)).mono ?_
  rintro e w1 ⟨rfl, hw⟩
  go_wp2
  go_ret2
  exact ⟨rfl, hw⟩

end Go.Proofs.YtpohaikbbfochaaDoor
