/-
  Contract of Get.
-/
import Derived.Test.YtpohaikbbfochaaDoorBitC
namespace Go.Proofs.YtpohaikbbfochaaDoor
open Go.RowKit Cad Cad.Bit
set_option linter.unusedVariables false

/-- What Get returns: the number, the error. -/
def getR (bs : List Bool) (p n : Int) : Nat × Int :=
  if n < 0 ∨ 64 < n ∨ p < 0 then (0, 2) else if (bs.length : Int) - n < p then (0, 24) else (bval ((bs.drop p.toNat).take n.toNat), 0)

set_option maxHeartbeats 1000000 in
theorem bget_any (A : Option Addr) (m c : Nat) (bs : List Bool) (p n : Int) (w : World) (ha : RowC .u8 w A m c (pack bs)) (hl : bs.length ≤ 330000) (hp : -9223372036854775808 ≤ p ∧ p ≤ 9223372036854775807) (hn : -9223372036854775808 ≤ n ∧ n ≤ 9223372036854775807) :
    Calls Tryd.prog 15 #[.agg #[.slice A m c, .int .i64 (bs.length : Nat)], .int .i64 p, .int .i64 n] w fun e w' => e = .returned (.tuple #[.int .u64 ((getR bs p n).1 : Nat), .int .i64 (getR bs p n).2]) ∧ Below w.heap.size w w' := by
  have hcap := ha.2
  have z2 : Below w.heap.size w (w.alloc (.cells #[.slice A m c, .int .i64 ((bs.length : Nat) : Int)] 26)) := (Below.refl _ _).alloc (Nat.le_refl _) _
  have z3 := ha.row.alloc (.cells #[.slice A m c, .int .i64 ((bs.length : Nat) : Int)] 26)
  have z0 : Blk (w.alloc (.cells #[.slice A m c, .int .i64 ((bs.length : Nat) : Int)] 26)) w.heap.size 26 [.slice A m c, .int .i64 ((bs.length : Nat) : Int)] := Blk.new w _ _
  have Z0 := Lib.hid z0; have Z2 := Lib.hid z2; have Z3 := Lib.hid z3
  clear z0 z2 z3
  by_cases h1 : n < 0 ∨ 64 < n ∨ p < 0
  · have HR : Hid (getR bs p n = (0, 2)) := by unfold getR; rw [if_pos h1]; rfl
    have h1' : n < 0 ∨ (¬ n < 0 ∧ 64 < n) ∨ (¬ n < 0 ∧ ¬ 64 < n ∧ p < 0) := by omega
    clear h1
    rcases h1' with h | ⟨h, h'⟩ | ⟨h, h', h''⟩
    all_goals
      go_enter Tryd.func15, Tryd.ntmps15
      go_wp2_with fail
      refine (bcheck_ok A m c bs _ Z3.out (by omega) hl).mono ?_
      rintro e w1 ⟨rfl, b1⟩
      go_wp2
      go_ret2
      exact ⟨by rw [HR.out]; rfl, Z2.out.trans (b1.mono Z2.out.size)⟩
  · obtain ⟨k, rfl⟩ := Int.eq_ofNat_of_zero_le (by omega : 0 ≤ n)
    obtain ⟨i, rfl⟩ := Int.eq_ofNat_of_zero_le (by omega : 0 ≤ p)
    have hk : k ≤ 64 := by omega
    by_cases h2 : (bs.length : Int) - (k : Int) < (i : Int)
    · have HR : Hid (getR bs (i : Nat) (k : Nat) = (0, 24)) := by unfold getR; rw [if_neg (by omega), if_pos h2]; rfl
      clear h1
      go_enter Tryd.func15, Tryd.ntmps15
      go_wp2_with fail
      refine (bcheck_ok A m c bs _ Z3.out (by omega) hl).mono ?_
      rintro e w1 ⟨rfl, b1⟩
      have y0 := Z0.out.below b1 (by simp)
      have q1 : w1.cell? ⟨w.heap.size, 1, none⟩ = some (.int .i64 ((bs.length : Nat) : Int)) := by rw [y0.cell]; rfl
      go_wp2
      go_ret2
      exact ⟨by rw [HR.out]; rfl, Z2.out.trans (b1.mono Z2.out.size)⟩
    · have HR : Hid (getR bs (i : Nat) (k : Nat) = (bval ((bs.drop i).take k), 0)) := by unfold getR; rw [if_neg (by omega), if_neg h2]; rfl
      clear h1
      go_enter Tryd.func15, Tryd.ntmps15
      go_wp2_with fail
      refine (bcheck_ok A m c bs _ Z3.out (by omega) hl).mono ?_
      rintro e w1 ⟨rfl, b1⟩
      have y0 := Z0.out.below b1 (by simp)
      have q0 : w1.cell? ⟨w.heap.size, 0, none⟩ = some (.slice A m c) := by rw [y0.cell]; rfl
      have q1 : w1.cell? ⟨w.heap.size, 1, none⟩ = some (.int .i64 ((bs.length : Nat) : Int)) := by rw [y0.cell]; rfl
      go_wp2_with fail
      refine (get_any A m c _ bs i k w1 (Z3.out.below b1) (by omega) (by omega) hl hk).mono ?_
      rintro e w2 ⟨rfl, b2⟩
      have bb := Z2.out.trans (b1.mono Z2.out.size)
      go_wp2
      go_ret2
      exact ⟨by rw [HR.out]; rfl, bb.trans (b2.mono bb.size)⟩

end Go.Proofs.YtpohaikbbfochaaDoor
