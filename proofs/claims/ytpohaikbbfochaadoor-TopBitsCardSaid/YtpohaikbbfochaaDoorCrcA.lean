/-
  Contracts of the sum of 32 bits.
-/
import Derived.Test.YtpohaikbbfochaaDoorRows
import Derived.Test.YtpohaikbbfochaaDoorCrc
import Derived.Test.YtpohaikbbfochaaDoorSt
import Derived.Deep.WholeRow
namespace Go.Proofs.YtpohaikbbfochaaDoor
open Go.RowKit Cad Cad.Crc
set_option linter.unusedVariables false
set_option linter.unusedSimpArgs false

/-- The table as far as it has been made. -/
def tabTo (j : Nat) : List Int := ((List.range j).map fun i => (steps 8 i : Int)) ++ zeros (256 - j)

theorem tabTo_len {j : Nat} (h : j ≤ 256) : (tabTo j).length = 256 := by
  unfold tabTo; rw [List.length_append, List.length_map, List.length_range, zeros_len]; omega
theorem nth_tabTo {i j : Nat} : nth (tabTo j) i = if i < j then (steps 8 i : Int) else 0 := by
  unfold tabTo
  by_cases h : i < j
  · rw [nth_append_left (by simpa using h), if_pos h, nth_map_range h]
  · rw [nth_append_right (by simpa using Nat.not_lt.1 h), if_neg h, nth_zeros]
theorem tabTo_set {j : Nat} (h : j < 256) : (tabTo j).set j (steps 8 j : Int) = tabTo (j + 1) := by
  refine list_ext (by rw [List.length_set, tabTo_len (by omega), tabTo_len (by omega)]) fun i hi => ?_
  rw [nth_set (by rw [tabTo_len (by omega)]; exact h), nth_tabTo, nth_tabTo]
  by_cases e : j = i
  · subst e; simp
  · rw [if_neg e]
    by_cases h2 : i < j
    · rw [if_pos h2, if_pos (by omega)]
    · rw [if_neg h2, if_neg (by omega)]
theorem map_set {k : IntKind} {xs : List Int} {j : Nat} {v : Int} : (xs.map (Value.int k)).set j (.int k v) = (xs.set j v).map (Value.int k) := by
  rw [List.map_set]
theorem xor_u32 (x y : Nat) (hx : x < 4294967296) (hy : y < 4294967296) : bits .xor .u32 (x : Int) (y : Int) = ((x ^^^ y : Nat) : Int) := by
  show IntKind.u32.wrap ((BitVec.ofInt 32 (x : Int) ^^^ BitVec.ofInt 32 (y : Int)).toNat : Int) = _
  have h1 : ∀ m : Nat, m < 4294967296 → (BitVec.ofInt 32 (m : Int)).toNat = m := fun m h => by
    rw [BitVec.ofInt_natCast, BitVec.toNat_ofNat]; exact Nat.mod_eq_of_lt (by omega)
  have h2 := xor_lt (n := 32) hx hy
  rw [BitVec.toNat_xor, h1 x hx, h1 y hy, IntKind.wrap_u32]
  omega
theorem xor_u8 (x y : Nat) (hx : x < 256) (hy : y < 256) : bits .xor .u8 (x : Int) (y : Int) = ((x ^^^ y : Nat) : Int) := by
  show IntKind.u8.wrap ((BitVec.ofInt 8 (x : Int) ^^^ BitVec.ofInt 8 (y : Int)).toNat : Int) = _
  have h1 : ∀ m : Nat, m < 256 → (BitVec.ofInt 8 (m : Int)).toNat = m := fun m h => by
    rw [BitVec.ofInt_natCast, BitVec.toNat_ofNat]; exact Nat.mod_eq_of_lt (by omega)
  have h2 := xor_lt (n := 8) hx hy
  rw [BitVec.toNat_xor, h1 x hx, h1 y hy, IntKind.wrap_u8]
  omega
theorem and1_u32 (c : Nat) (h : c < 4294967296) : bits .and .u32 (c : Int) 1 = ((c % 2 : Nat) : Int) := by
  have hx : c &&& 1 = c % 2 := Nat.and_two_pow_sub_one_eq_mod c 1
  show IntKind.u32.wrap ((BitVec.ofInt 32 (c : Int) &&& BitVec.ofInt 32 1).toNat : Int) = _
  have h1 : (BitVec.ofInt 32 (c : Int)).toNat = c := by
    rw [BitVec.ofInt_natCast, BitVec.toNat_ofNat]; exact Nat.mod_eq_of_lt (by omega)
  have h2 : (BitVec.ofInt 32 1).toNat = 1 := by rfl
  rw [BitVec.toNat_and, h1, h2, hx, IntKind.wrap_u32]
  omega
theorem step_word (c : Nat) (h : c < 4294967296) : bits .xor .u32 ((c : Int) / 2) (3988292384 * bits .and .u32 (c : Int) 1 % 4294967296) = ((Crc.step c : Nat) : Int) := by
  rw [and1_u32 c h]
  have e : (3988292384 * ((c % 2 : Nat) : Int) % 4294967296) = ((3988292384 * (c % 2) : Nat) : Int) := by omega
  rw [e, show (c : Int) / 2 = ((c / 2 : Nat) : Int) by omega, xor_u32 _ _ (by omega) (by omega)]
  rfl

theorem zero256 : ∀ w, (zeroValue 115).run Tryd.prog w = .ok (.agg (zeroRow .u32 256)) w := (zero_of_info (n := 256) (by kernel_rfl)).1

set_option maxHeartbeats 400000 in
theorem table_ok (w : World) :
    Calls Tryd.prog 38 #[] w fun e w' => e = .returned (.pointer (some ⟨w.heap.size, 0, none⟩)) ∧ Blk w' w.heap.size 115 ((tabTo 256).map (Value.int .u32)) ∧ Below w.heap.size w w' := by
  have hz := zero256
  go_enter Tryd.func38, Tryd.ntmps38
  go_wp2_with fail
  go_loopg [3, 5] 256 (fun r v i wr => ∃ j : Nat, j + r = 256 ∧ i = .int .i64 (j : Int) ∧ Blk wr w.heap.size 115 ((tabTo j).map (Value.int .u32)) ∧ Below w.heap.size w wr)
  case atStart => exact ⟨0, rfl, rfl, Blk.new w _ _, (Below.refl _ _).alloc (Nat.le_refl _) _⟩
  case round =>
    obtain ⟨j, hj, rfl, hb, hw⟩ := hrel
    by_cases hlt : j < 256
    · have hlt' : (j : Int) < 256 := by omega
      go_wp2_with fail
      go_loopg [3, 4, 10] 8 (fun r v lo i wr' => ∃ k c : Nat, k + r = 8 ∧ i = .int .i64 (k : Int) ∧ v = .int .u32 (c : Int) ∧ Hid (c = steps k j) ∧ wr' = wr)
      case atStart => exact ⟨0, j, rfl, rfl, rfl, Lib.hid rfl, rfl⟩
      case round =>
        obtain ⟨k, c, hk, rfl, rfl, HC, rfl⟩ := hrel
        have hc : c < 4294967296 := by rw [HC.out]; exact steps_lt _ (by omega)
        by_cases hlt2 : k < 8
        · have hlt2' : (k : Int) < 8 := by omega
          go_wp2
          go_roundg (8 - (k + 1))
          case measure => omega
          case rel => refine ⟨k + 1, Crc.step c, by omega, by go_num, by rw [step_word c hc], Lib.hid (by rw [HC.out, steps_succ]), rfl⟩
        · obtain rfl : k = 8 := by omega
          have kc : wr.cell? ⟨w.heap.size, j, none⟩ = some (.int .u32 0) := by rw [hb.cell, getElem?_map_nth (by rw [tabTo_len (by omega)]; exact hlt), nth_tabTo, if_neg (by omega)]
          have kf : wr.frozen? ⟨w.heap.size, j, none⟩ = false := hb.frozen j
          have HB := Lib.hid hb
          clear hb
          go_wp2
          go_roundg (256 - (j + 1))
          case measure => omega
          case rel =>
            refine ⟨j + 1, by omega, by go_num, ?_, hw.setCell (p := ⟨w.heap.size, j, none⟩) (Nat.le_refl _) _⟩
            rw [← tabTo_set hlt, ← map_set, ← HC.out]
            exact HB.out.set j _
    · obtain rfl : j = 256 := by omega
      go_wp2
      go_ret
      exact ⟨rfl, hb, hw⟩

theorem not_nat (x : Nat) (h : x < 4294967296) : 4294967295 ^^^ x = 4294967295 - x := by
  have h1 := BitVec.toNat_not (x := BitVec.ofNat 32 x)
  have h2 : (BitVec.ofNat 32 x).toNat = x := by rw [BitVec.toNat_ofNat]; exact Nat.mod_eq_of_lt (by omega)
  rw [BitVec.not_def, BitVec.toNat_xor, h2, BitVec.toNat_allOnes] at h1
  exact h1
theorem not_u32 (x : Nat) (h : x < 4294967296) : bits .xor .u32 IntKind.u32.max (x : Int) = ((4294967295 - x : Nat) : Int) := by
  have := xor_u32 4294967295 x (by decide) h
  rw [not_nat x h] at this
  exact this
theorem next_word (s b : Nat) (hs : s < 4294967296) (hb : b < 256) : bits .xor .u32 ((s : Int) / 256) ((steps 8 (s % 256 ^^^ b) : Nat) : Int) = ((byte s b : Nat) : Int) := by
  rw [byte_table, show (s : Int) / 256 = ((s / 256 : Nat) : Int) by omega, xor_u32 _ _ (by omega) (steps_lt _ (by have := xor_lt (n := 8) (show s % 256 < 2 ^ 8 by omega) hb; omega))]

set_option maxHeartbeats 400000 in
theorem next_ok (s : Nat) (A : Option Addr) (n c : Nat) (l : List Int) (w : World) (ha : Row .u8 w A n l) (hl : Within 0 255 l) (hn : n ≤ 100000) (hs : s < 4294967296) :
    Calls Tryd.prog 9 #[.int .u32 (s : Int), .slice A n c] w fun e w' => e = .returned (.tuple #[.int .u32 ((Crc.bytes s l : Nat) : Int), .int .i64 0]) ∧ Below w.heap.size w w' := by
  have HL := Lib.hid ha.len
  go_enter Tryd.func9, Tryd.ntmps9
  go_wp2_with fail
  refine (table_ok w).mono ?_
  rintro e w1 ⟨rfl, hb, hw⟩
  have hsz := hb.lt
  have HB := Lib.hid hb
  clear hb
  go_wp2_with fail
  go_loopg [0, 15] n (fun r v i wr => ∃ k x : Nat, k + r = n ∧ i = .int .i64 (k : Int) ∧ v = .int .u32 (x : Int) ∧ Hid (x = Crc.bytes s (l.take k)) ∧ wr = w1)
  case atStart => exact ⟨0, s, by omega, rfl, rfl, Lib.hid rfl, rfl⟩
  case round =>
    obtain ⟨k, x, hk, rfl, rfl, HX, rfl⟩ := hrel
    have hx : x < 4294967296 := by rw [HX.out]; exact bytes_lt hs (hl.take k)
    by_cases hlt : k < n
    · have hlt' : (k : Int) < (n : Int) := by omega
      obtain ⟨b, o, rfl, hbk, hc⟩ := ha.at (by omega)
      have hy := hl.nth (by decide) (by decide) k
      obtain ⟨y, hye⟩ : ∃ y : Nat, nth l k = (y : Int) := ⟨(nth l k).toNat, by omega⟩
      have hy8 : y < 256 := by omega
      have c1 : wr.cell? ⟨b, o + k, none⟩ = some (.int .u8 (y : Int)) := by rw [hw.cell hbk, hc k hlt, hye]
      obtain ⟨q, HQ⟩ : ∃ q, Hid (q = x % 256 ^^^ y) := ⟨_, Lib.hid rfl⟩
      have hq : q < 256 := by rw [HQ.out]; exact xor_lt (n := 8) (Nat.mod_lt _ (by decide)) hy8
      have hqe : bits .xor .u8 ((x : Int) % 256) (y : Int) = (q : Int) := by
        rw [HQ.out, show (x : Int) % 256 = ((x % 256 : Nat) : Int) by omega, xor_u8 _ _ (Nat.mod_lt _ (by decide)) hy8]
      obtain ⟨t, HT⟩ : ∃ t : Nat, Hid (t = steps 8 q) := ⟨_, Lib.hid rfl⟩
      have ht : t < 4294967296 := by rw [HT.out]; exact steps_lt 8 (by omega)
      have c2 : wr.cell? ⟨w.heap.size, q, none⟩ = some (.int .u32 (t : Int)) := by
        rw [HB.out.cell, getElem?_map_nth (by rw [tabTo_len (by omega)]; exact hq), nth_tabTo, if_pos hq, HT.out]
      have HN : Hid (bits .xor .u32 ((x : Int) / 256) (t : Int) = ((Crc.byte x y : Nat) : Int)) := by
        rw [HT.out, HQ.out, next_word x y hx hy8]; exact Lib.hid rfl
      clear hc hy
      have HY := Lib.hid hye
      clear hye
      go_wp2
      go_roundg (n - (k + 1))
      case measure => omega
      case rel =>
        refine ⟨k + 1, Crc.byte x y, by omega, by go_num, by rw [HN.out], Lib.hid ?_, rfl⟩
        rw [bytes_next (by rw [HL.out]; exact hlt), ← HX.out, HY.out, Int.toNat_natCast]
    · obtain rfl : k = n := by omega
      have HE : Hid (x = Crc.bytes s l) := by rw [HX.out, List.take_of_length_le (by rw [HL.out]; exact Nat.le_refl _)]; exact Lib.hid rfl
      go_wp2
      go_ret2
      exact ⟨by rw [← HE.out]; rfl, hw⟩
theorem next_many (s : Int) (A : Option Addr) (n c : Nat) (w : World) (hn : 100000 < n) (hn2 : n ≤ 9223372036854775807) :
    Calls Tryd.prog 9 #[.int .u32 s, .slice A n c] w fun e w' => e = .returned (.tuple #[.int .u32 0, .int .i64 4]) ∧ w = w' := by
  go_enter Tryd.func9, Tryd.ntmps9
  go_wp2
  go_ret2
  exact ⟨rfl, rfl⟩
set_option maxHeartbeats 400000 in
theorem sum_ok (A : Option Addr) (n c : Nat) (l : List Int) (w : World) (ha : Row .u8 w A n l) (hl : Within 0 255 l) (hn : n ≤ 100000) :
    Calls Tryd.prog 13 #[.slice A n c] w fun e w' => e = .returned (.tuple #[.int .u32 ((Crc.sum l : Nat) : Int), .int .i64 0]) ∧ Below w.heap.size w w' := by
  obtain ⟨x, HX⟩ : ∃ x, Hid (x = Crc.bytes 4294967295 l) := ⟨_, Lib.hid rfl⟩
  have hx : x < 4294967296 := by rw [HX.out]; exact bytes_lt (by decide) hl
  have hc := next_ok 4294967295 A n c l w ha hl hn (by decide)
  rw [← HX.out] at hc
  have HC := Lib.hid hc
  clear hc
  go_enter Tryd.func13, Tryd.ntmps13
  go_wp2_with fail
  refine HC.out.mono ?_
  rintro e w1 ⟨rfl, hw⟩
  have hsg : ¬ IntKind.u32.signed = true := by decide
  go_wp2
  go_ret2
  · have e : bits .xor .u32 IntKind.u32.max (x : Int) = ((4294967295 - x : Nat) : Int) := not_u32 x hx
    exact ⟨by unfold Crc.sum; rw [← HX.out, ← e]; rfl, hw⟩

end Go.Proofs.YtpohaikbbfochaaDoor
