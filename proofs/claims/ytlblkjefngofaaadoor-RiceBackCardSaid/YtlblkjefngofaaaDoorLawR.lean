/-
  The examples of chapter 7 (Rice codes); the walk of RiceOrder.
-/
import Derived.Test.YtlblkjefngofaaaDoorRiceA
import Derived.Test.YtlblkjefngofaaaDoorRefB
namespace Go.Proofs.YtlblkjefngofaaaDoor
open Go.RowKit Cad Cad.Bit Cad.Code
set_option linter.unusedVariables false
set_option linter.unusedSimpArgs false

theorem rwrite_ok (A : Option Addr) (m c : Nat) (bs : List Bool) (v k : Nat) (w : World) (ha : Row .u8 w A m (pack bs)) (hc : m ≤ c ∧ c ≤ 9223372036854775807) (hv : v < 4294967296) (hk : k ≤ 24) (hr : bs.length + riceLen v k ≤ 330000) :
    Calls Tryd.prog 19 #[.agg #[.slice A m c, .int .i64 (bs.length : Nat)], .int .u32 (v : Int), .int .i64 (k : Int)] w (RetB w (bs ++ rice v k) 0) := by
  have h := rwrite_ret A m c bs v (k : Nat) w ha hc (by omega) hv (by omega)
  have e : rwR bs v (k : Nat) = (bs ++ rice v k, 0) := by unfold rwR; rw [if_neg (by omega), Int.toNat_natCast, if_neg (by omega)]
  rw [e] at h; exact h

set_option maxRecDepth 100000 in
set_option maxHeartbeats 400000 in
theorem alive07 (w : World) : Calls Tryd.prog 25 #[] w fun e w' => e = .returned (.bool true) ∧ Below w.heap.size w w' := by
  go_enter Tryd.func25, Tryd.ntmps25
  go_wp2_with fail
  refine (rwrite_ok none 0 0 [] 9 2 _ Row.nil ⟨Nat.le_refl _, Nat.zero_le _⟩ (by omega) (by omega) (by decide)).mono ?_
  rintro e w1 ⟨Aa, ma, ca, xa, rfl, hca, ra, HXa, b1⟩
  have La : xa.length ≤ 5 ∧ 5 ≤ xa.length := by rw [HXa.out]; decide
  obtain ⟨La1, La2⟩ := La
  replace ra := ra.mono (lo' := w.heap.size + 0) (by go_size) (Nat.le_refl _)
  have s1 := b1.size
  try simp only [World.size_alloc, World.size_setCell, World.size_drew, size_drewN] at s1
  obtain ⟨ra_1, bb_1⟩ : RowIn .u8 w1 (w.heap.size + 0) (w1.heap.size) Aa ma (pack xa) ∧ Below w.heap.size w w1 := by
    refine ⟨?_, ?_⟩
    all_goals repeat' (first | (with_reducible assumption) | (with_reducible exact Below.refl _ _) | (with_reducible refine Blk.after ?_ b1) | (with_reducible refine RowIn.belowS ?_ b1) | (with_reducible refine Below.after ?_ b1 ?_) | (with_reducible refine Blk.drewN ?_ _) | (with_reducible refine RowIn.drewN ?_ _) | (with_reducible refine below_drewN ?_ _) | (with_reducible refine Blk.drew ?_) | (with_reducible refine RowIn.drew ?_) | (with_reducible refine Below.drew ?_) | (with_reducible refine Blk.new' ?_ ?_ <;> first | (with_reducible rfl) | (simp; done)) | (with_reducible refine Blk.alloc ?_ _) | (with_reducible refine RowIn.alloc ?_ _) | (with_reducible refine Below.alloc ?_ ?_ _) | (with_reducible apply Blk.set') | (with_reducible apply Blk.far') | (with_reducible refine RowIn.far' ?_ ?_ _) | (with_reducible refine Below.far' ?_ ?_ _) | rfl | omega | go_size)
  clear b1
  clear ra
  go_wp2_with fail
  refine (rlen_ok 47 0 _ (by omega) (by omega)).mono ?_
  rintro e _ ⟨y1, rfl, HY1, rfl⟩
  have hy1 : y1 = 48 := by rw [HY1.out]; decide
  subst hy1
  go_wp2_with fail
  refine (rlen_ok 48 0 _ (by omega) (by omega)).mono ?_
  rintro e _ ⟨y2, rfl, HY2, rfl⟩
  have hy2 : y2 = 80 := by rw [HY2.out]; decide
  subst hy2
  have ta : (((xa.length : Nat) : Int) == 5) = true := beq_iff_eq.2 (by omega)
  have sca := run_str (P := Tryd.prog) (src := 22) (dst := 9) Tryd.underlying22 Tryd.underlying5 Tryd.underlying9 ca (ra_1.row.alloc (.cells #[.slice Aa ma ca, .int .i64 ((xa.length : Nat) : Int)] 24))
  have sla : ((strOfNums (pack xa)).toList == [11]) = true := by rw [str_lit (pack_u8 _), HXa.out]; decide
  go_wp2
  go_ret
  refine ⟨rfl, ?_⟩
  repeat' (first | (with_reducible assumption) | (with_reducible exact Below.refl _ _) | (with_reducible refine Blk.drewN ?_ _) | (with_reducible refine RowIn.drewN ?_ _) | (with_reducible refine below_drewN ?_ _) | (with_reducible refine Blk.drew ?_) | (with_reducible refine RowIn.drew ?_) | (with_reducible refine Below.drew ?_) | (with_reducible refine Blk.new' ?_ ?_ <;> first | (with_reducible rfl) | (simp; done)) | (with_reducible refine Blk.alloc ?_ _) | (with_reducible refine RowIn.alloc ?_ _) | (with_reducible refine Below.alloc ?_ ?_ _) | (with_reducible apply Blk.set') | (with_reducible apply Blk.far') | (with_reducible refine RowIn.far' ?_ ?_ _) | (with_reducible refine Below.far' ?_ ?_ _) | rfl | omega | go_size)


/-- No code begins another one. -/
theorem rice_apart {v u k : Nat} (hv : v < 4294967296) (hu : u < 4294967296) (h : v ≠ u) : (rice u k).take (riceLen v k) ≠ rice v k := by
  intro e
  have h1 := readR_rice (k := k) hv ((rice u k).drop (riceLen v k))
  rw [← e, List.take_append_drop] at h1
  have h2 := readR_rice (k := k) hu []
  rw [List.append_nil, h1] at h2
  injection h2 with h3 _
  exact h h3
theorem riceLen_low {v k : Nat} (hk : k ≤ 24) : v < 2 ^ k ↔ riceLen v k = k + 1 := by
  have hp := Nat.two_pow_pos k
  have h1 : v / 2 ^ k = 0 ↔ v < 2 ^ k := by
    rw [Nat.div_eq_zero_iff]; omega
  unfold riceLen
  rw [← h1]
  generalize v / 2 ^ k = q
  split <;> omega


end Go.Proofs.YtlblkjefngofaaaDoor
