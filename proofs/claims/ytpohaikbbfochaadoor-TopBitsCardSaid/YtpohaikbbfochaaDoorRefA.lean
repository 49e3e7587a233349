/-
  Contracts of the reference's bits: one bit, checking.
-/
import Derived.Test.YtpohaikbbfochaaDoorBitA
namespace Go.Proofs.YtpohaikbbfochaaDoor
open Go.RowKit Cad Cad.Bit
set_option linter.unusedVariables false

/-- The byte with an index as a natural number. -/
theorem byte_nat {bytes : List Int} (hb : Within 0 255 bytes) (j : Nat) : ∃ x : Nat, nth bytes j = (x : Int) ∧ x < 256 := by
  have := hb.nth (by decide) (by decide) j
  exact ⟨(nth bytes j).toNat, by omega, by omega⟩

set_option maxHeartbeats 400000 in
theorem rat_any (A : Option Addr) (n c : Nat) (N : Int) (bytes : List Int) (i x : Nat) (w : World) (ha : Row .u8 w A n bytes) (hi : i / 8 < n) (hx : nth bytes (i / 8) = (x : Int)) (hx8 : x < 256) (hib : i ≤ 1000000000) (hn : n ≤ 9223372036854775807) :
    Calls Tryd.prog 42 #[.agg #[.slice A n c, .int .i64 N], .int .i64 i] w fun e w' => e = .returned (.int .i64 ((x / 2 ^ (i % 8) % 2 : Nat) : Int)) ∧ Below w.heap.size w w' := by
  obtain ⟨b, o, rfl, hbk, hc⟩ := ha.at (by omega)
  have c1 : (w.alloc (.cells #[.slice (some ⟨b, o, none⟩) n c, .int .i64 N] 26)).cell? ⟨b, o + i / 8, none⟩ = some (.int .u8 (x : Int)) := by
    rw [World.cell?_alloc_past _ _ _ hbk, hc _ hi, hx]
  have z2 : Below w.heap.size w (w.alloc (.cells #[.slice (some ⟨b, o, none⟩) n c, .int .i64 N] 26)) := (Below.refl _ _).alloc (Nat.le_refl _) _
  have Z2 := Lib.hid z2
  clear hc hx z2
  go_enter Tryd.func42, Tryd.ntmps42
  go_wp2_with fail
  go_loopg [5, 6] (i % 8) (fun r v j wr => ∃ k y : Nat, k + r = i % 8 ∧ j = .int .i64 k ∧ v = .int .i64 (y : Int) ∧ Hid (y = x / 2 ^ k) ∧ wr = w.alloc (.cells #[.slice (some ⟨b, o, none⟩) n c, .int .i64 N] 26))
  case atStart => exact ⟨0, x, by omega, rfl, rfl, Lib.hid (by simp), rfl⟩
  case round =>
    obtain ⟨k, y, hk, rfl, rfl, HY, rfl⟩ := hrel
    have hq : y ≤ 255 := by rw [HY.out]; exact Nat.le_trans (Nat.div_le_self _ _) (by omega)
    by_cases hlt : k < i % 8
    · have hlt' : (k : Int) < ((i % 8 : Nat) : Int) := by omega
      go_wp2
      go_roundg (i % 8 - (k + 1))
      case measure => omega
      case rel => exact ⟨k + 1, y / 2, by omega, by go_num, by go_num, Lib.hid (by rw [HY.out, Nat.pow_succ, ← Nat.div_div_eq_div_mul]), rfl⟩
    · obtain rfl : k = i % 8 := by omega
      go_wp2
      go_ret
      exact ⟨by rw [← HY.out]; rfl, Z2.out⟩

theorem low_zero {y j : Nat} (h1 : y % 2 ^ j = 0) (h2 : y / 2 ^ j % 2 = 0) : y % 2 ^ (j + 1) = 0 := by
  rw [Nat.pow_succ, Nat.mod_mul, h1, h2]; simp

set_option maxHeartbeats 400000 in
theorem rcheck_any (A : Option Addr) (n c : Nat) (N : Int) (bytes : List Int) (w : World) (ha : Row .u8 w A n bytes) (hb : Within 0 255 bytes) (hn : n ≤ 9223372036854775807) :
    Calls Tryd.prog 12 #[.agg #[.slice A n c, .int .i64 N]] w fun e w' => e = .returned (.int .i64 (chkB bytes N)) ∧ Below w.heap.size w w' := by
  have HX := Lib.hid ha.len
  by_cases h1 : N < 0
  · have HE : Hid (chkB bytes N = 8) := by unfold chkB; rw [if_neg (fun h => by have := h.1; omega)]; rfl
    go_enter Tryd.func12, Tryd.ntmps12
    go_wp2
    go_ret
    exact ⟨ret_int HE.out.symm, (Below.refl _ _).alloc (Nat.le_refl _) _⟩
  by_cases h2 : 330000 < N
  · have HE : Hid (chkB bytes N = 8) := by unfold chkB; rw [if_neg (fun h => by have := h.2.1; omega)]; rfl
    go_enter Tryd.func12, Tryd.ntmps12
    go_wp2
    go_ret
    exact ⟨ret_int HE.out.symm, (Below.refl _ _).alloc (Nat.le_refl _) _⟩
  obtain ⟨m, rfl⟩ := Int.eq_ofNat_of_zero_le (by omega : 0 ≤ N)
  have hm : m ≤ 330000 := by omega
  clear h1 h2
  by_cases hl : n = (m + 7) / 8
  · have hl' : ((n : Int) != ((m : Int) + 7) / 8) = false := by simp; omega
    have hn8 : n ≤ 41250 := by omega
    obtain ⟨x, hx, hx8⟩ := byte_nat hb (n - 1)
    have HB : Hid (chkB bytes (m : Nat) = if (0 < m % 8 → x / 2 ^ (m % 8) = 0) then 0 else 8) := by
      have key : Valid bytes (m : Nat) ↔ (0 < m % 8 → x / 2 ^ (m % 8) = 0) := by
        unfold Valid
        rw [HX.out, Int.toNat_natCast, hx, pow_cast, ← Int.natCast_ediv]
        constructor
        · intro h h0; have := h.2.2.2 h0; omega
        · intro h; exact ⟨by omega, by omega, hl, fun h0 => by rw [h h0]; rfl⟩
      unfold chkB
      by_cases hv : Valid bytes (m : Nat)
      · rw [if_pos hv, if_pos (key.1 hv)]; rfl
      · rw [if_neg hv, if_neg (fun h => hv (key.2 h))]; rfl
    have HL := Lib.hid hl
    obtain ⟨w0, hw0⟩ : ∃ w0, w0 = w.alloc (.cells #[.slice A n c, .int .i64 (m : Int)] 26) := ⟨_, rfl⟩
    have z0 : Blk w0 w.heap.size 26 [.slice A n c, .int .i64 (m : Int)] := by rw [hw0]; exact Blk.new w _ _
    have z2 : Below w.heap.size w w0 := by rw [hw0]; exact (Below.refl _ _).alloc (Nat.le_refl _) _
    have z3 : Row .u8 w0 A n bytes := by rw [hw0]; exact ha.alloc _
    clear hl
    go_enter Tryd.func12, Tryd.ntmps12
    go_wp2_with fail
    rw [← hw0]
    clear hw0
    go_loopg [3] (8 * n - m) (fun r v wr => ∃ j : Nat, m + j + r = 8 * n ∧ v = .int .i64 ((m + j : Nat) : Int) ∧ Hid (x / 2 ^ (m % 8) % 2 ^ j = 0) ∧ Below w0.heap.size w0 wr)
    case atStart => exact ⟨0, by have := HL.out; omega, rfl, Lib.hid (by simp [Nat.mod_one]), Below.refl _ _⟩
    case round =>
      obtain ⟨j, hj, rfl, HJ, hbr⟩ := hrel
      have y0 := z0.below hbr z0.lt
      have q0 : wr.cell? ⟨w.heap.size, 0, none⟩ = some (.slice A n c) := by rw [y0.cell]; rfl
      have q1 : wr.cell? ⟨w.heap.size, 1, none⟩ = some (.int .i64 (m : Int)) := by rw [y0.cell]; rfl
      have bb := z2.trans (hbr.mono z2.size)
      by_cases hlt : m + j < 8 * n
      · have hdiv : (m + j) / 8 = n - 1 := by have := HL.out; omega
        have hmod : (m + j) % 8 = m % 8 + j := by have := HL.out; omega
        have hxe : nth bytes ((m + j) / 8) = (x : Int) := by rw [hdiv, hx]
        have hbit : x / 2 ^ ((m + j) % 8) % 2 = x / 2 ^ (m % 8) / 2 ^ j % 2 := by rw [hmod, Nat.pow_add, Nat.div_div_eq_div_mul]
        have hcall := rat_any A n c (m : Int) bytes (m + j) x wr (z3.below hbr) (by omega) hxe hx8 (by omega) hn
        rw [hbit] at hcall
        have HC := Lib.hid hcall
        clear hcall hdiv hmod hxe hbit
        by_cases hz : x / 2 ^ (m % 8) / 2 ^ j % 2 = 0
        · rw [hz] at HC
          have HZ := Lib.hid hz; clear hz
          go_wp2_with fail
          refine HC.out.mono ?_
          rintro e w1 ⟨rfl, b1⟩
          go_wp2
          go_roundg (8 * n - (m + (j + 1)))
          case measure => omega
          case rel => exact ⟨j + 1, by omega, by go_num, Lib.hid (low_zero HJ.out HZ.out), hbr.trans (b1.mono hbr.size)⟩
        · have hz1 : x / 2 ^ (m % 8) / 2 ^ j % 2 = 1 := by omega
          rw [hz1] at HC
          have HE : Hid (chkB bytes (m : Nat) = 8) := by
            have hr : 0 < m % 8 := by have := HL.out; omega
            have h := HB.out
            rw [if_neg (fun h => by rw [h hr] at hz; simp at hz)] at h
            exact h
          clear hz hz1
          go_wp2_with fail
          refine HC.out.mono ?_
          rintro e w1 ⟨rfl, b1⟩
          go_wp2
          go_ret
          exact ⟨ret_int HE.out.symm, bb.trans (b1.mono bb.size)⟩
      · have HE : Hid (chkB bytes (m : Nat) = 0) := by
          have h := HB.out
          rw [if_pos (fun hr => by
            have h1 : x / 2 ^ (m % 8) < 2 ^ j := by
              rw [show j = 8 - m % 8 by have := HL.out; omega]
              rw [Nat.div_lt_iff_lt_mul (Nat.two_pow_pos _), ← Nat.pow_add, show 8 - m % 8 + m % 8 = 8 by omega]; exact hx8
            have := HJ.out
            rwa [Nat.mod_eq_of_lt h1] at this)] at h
          exact h
        go_wp2
        go_ret
        exact ⟨ret_int HE.out.symm, bb⟩
  · have hl' : ((n : Int) != ((m : Int) + 7) / 8) = true := by simp; omega
    have HE : Hid (chkB bytes (m : Nat) = 8) := by
      unfold chkB; rw [if_neg (fun h => hl (by have := h.2.2.1; rw [HX.out, Int.toNat_natCast] at this; exact this))]; rfl
    clear hl
    go_enter Tryd.func12, Tryd.ntmps12
    go_wp2
    go_ret
    exact ⟨ret_int HE.out.symm, (Below.refl _ _).alloc (Nat.le_refl _) _⟩

theorem rcheck_ok (A : Option Addr) (n c : Nat) (bs : List Bool) (w : World) (ha : Row .u8 w A n (pack bs)) (hn : n ≤ 9223372036854775807) (hl : bs.length ≤ 330000) :
    Calls Tryd.prog 12 #[.agg #[.slice A n c, .int .i64 (bs.length : Nat)]] w fun e w' => e = .returned (.int .i64 0) ∧ Below w.heap.size w w' :=
  (rcheck_any A n c (bs.length : Nat) (pack bs) w ha (pack_u8 bs) hn).mono fun e w' h => ⟨by rw [h.1]; unfold chkB; rw [if_pos (valid_pack hl)], h.2⟩

theorem rcheck_bad (A : Option Addr) (n c : Nat) (N : Int) (bytes : List Int) (w : World) (ha : Row .u8 w A n bytes) (hb : Within 0 255 bytes) (hn : n ≤ 9223372036854775807) (hv : ¬ Valid bytes N) :
    Calls Tryd.prog 12 #[.agg #[.slice A n c, .int .i64 N]] w fun e w' => e = .returned (.int .i64 8) ∧ Below w.heap.size w w' :=
  (rcheck_any A n c N bytes w ha hb hn).mono fun e w' h => ⟨by rw [h.1]; unfold chkB; rw [if_neg hv], h.2⟩

end Go.Proofs.YtpohaikbbfochaaDoor
