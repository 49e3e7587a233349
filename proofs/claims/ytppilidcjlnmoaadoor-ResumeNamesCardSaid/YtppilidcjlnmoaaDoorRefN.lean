/-
  Contracts of the reference's Number and Value.
-/
import Derived.Test.YtppilidcjlnmoaaDoorRefC
import Derived.Test.YtppilidcjlnmoaaDoorRefD
import Derived.Test.YtppilidcjlnmoaaDoorBits
namespace Go.Proofs.YtppilidcjlnmoaaDoor
open Go.RowKit Cad Cad.Bit
set_option linter.unusedVariables false
set_option linter.unusedSimpArgs false

theorem lowBits_next (v j : Nat) : lowBits v (j + 1) = lowBits v j ++ [decide (v / 2 ^ j % 2 = 1)] := by rw [lowBits_add]; rfl
theorem bit_int {x : Nat} : ((x % 2 : Nat) : Int) = if decide (x % 2 = 1) then 1 else 0 := by
  rcases Nat.mod_two_eq_zero_or_one x with h | h <;> rw [h] <;> rfl

set_option maxRecDepth 100000 in
set_option maxHeartbeats 1000000 in
theorem rnumber_any (base : Nat) (A : Option Addr) (m c : Nat) (bs : List Bool) (v n : Nat) (w : World) (hn : n ≤ 64) (hv : v < 18446744073709551616) (hl : bs.length + n ≤ 330000) (hbase : base ≤ w.heap.size) (hown : Own w base 5 .u8 A m c (pack bs)) :
    Calls Tryd.prog 74 #[.agg #[.slice A m c, .int .i64 ((bs.length : Nat) : Int)], .int .u64 (v : Nat), .int .i64 (n : Nat)] w (Grew w base A (bs ++ lowBits v n)) := by
  go_enter Tryd.func74, Tryd.ntmps74
  go_wp2_with fail
  go_loopg [1, 7] n (fun k u v' wr => ∃ (j x : Nat) (B : Option Addr) (m' d' : Nat) (os : List Bool), j + k = n ∧ v' = .int .i64 (j : Nat) ∧ u = .int .u64 (x : Nat) ∧ Hid (x = v / 2 ^ j) ∧ Hid (os = bs ++ lowBits v j) ∧ Blk wr w.heap.size 24 [.slice B m' d', .int .i64 ((os.length : Nat) : Int)] ∧ Blk wr (w.heap.size + 1) 24 [.slice none 0 0, .int .i64 0] ∧ Own wr base 5 .u8 B m' d' (pack os) ∧ Frm (fun k => blockOf A = some k) w wr ∧ Hid (∀ k, blockOf B = some k → k < w.heap.size → blockOf A = some k))
  case atStart =>
    refine ⟨0, v, A, m, c, bs, by omega, rfl, rfl, Lib.hid (by simp), Lib.hid (by simp [lowBits]), ?_, ?_, (hown.alloc _).alloc _, ((Frm.refl _ w).alloc _).alloc _, Lib.hid (fun _ h _ => h)⟩
    all_goals repeat' (first | (with_reducible assumption) | (with_reducible exact Below.refl _ _) | (with_reducible refine Blk.drewN ?_ _) | (with_reducible refine RowIn.drewN ?_ _) | (with_reducible refine below_drewN ?_ _) | (with_reducible refine Blk.drew ?_) | (with_reducible refine RowIn.drew ?_) | (with_reducible refine Below.drew ?_) | (with_reducible refine Blk.new' ?_ ?_ <;> first | (with_reducible rfl) | (simp; done)) | (with_reducible refine Blk.alloc ?_ _) | (with_reducible refine RowIn.alloc ?_ _) | (with_reducible refine Below.alloc ?_ ?_ _) | (with_reducible apply Blk.set') | (with_reducible apply Blk.far') | (with_reducible refine RowIn.far' ?_ ?_ _) | (with_reducible refine Below.far' ?_ ?_ _) | rfl | omega | go_size)
  case round =>
    obtain ⟨j, x, B, m', d', os, hj, rfl, rfl, HX, HO, zb, zr, own, fr, HBA⟩ := hrel
    have s1 := fr.size
    have kb := zb.cell; have fb := zb.frozen; have lb := zb.lt; have kr := zr.cell; have frr := zr.frozen; have lr := zr.lt
    have hos : os.length ≤ bs.length + j := by rw [HO.out, List.length_append, lowBits_len]; omega
    by_cases hlt : j < n
    · have hx64 : x < 18446744073709551616 := by rw [HX.out]; exact Nat.lt_of_le_of_lt (Nat.div_le_self _ _) hv
      obtain ⟨y, HY⟩ : ∃ y : Nat, Hid (y = x % 2) := ⟨_, Lib.hid rfl⟩
      have hy : (x : Int) % 2 = (y : Int) := by rw [HY.out]; omega
      have hy2 : y < 2 := by rw [HY.out]; omega
      have hyw : IntKind.i64.wrap (y : Int) = (y : Int) := IntWalk.i64_in _ (by omega)
      obtain ⟨z, HZ⟩ : ∃ z : Nat, Hid (z = x / 2) := ⟨_, Lib.hid rfl⟩
      have hz : (x : Int) / 2 = (z : Int) := by rw [HZ.out]; omega
      go_wp2_with fail
      refine (radd_any base B m' d' os (y : Int) (decide (x % 2 = 1)) _ (by rw [HY.out]; exact bit_int) (by omega) (by omega) own).mono ?_
      rintro e w2 ⟨B2, m2, d2, os2, rfl, own2, HO2, fr2, hB2⟩
      have hbn : blockOf B ≠ some w.heap.size := own.ne_blk zb (by decide)
      have hrn : blockOf B ≠ some (w.heap.size + 1) := own.ne_blk zr (by decide)
      have zb2 := zb.frm fr2 hbn
      have zr2 := zr.frm fr2 hrn
      have hbn2 : blockOf B2 ≠ some w.heap.size := own2.ne_blk zb2 (by decide)
      have own3 := (own2.far' (i := 0) hbn2 (.slice B2 m2 d2)).far' (i := 1) hbn2 (.int .i64 ((os2.length : Nat) : Int))
      have fr3 : Frm (fun k => blockOf A = some k) w w2 := fr.trans fr2 (fun i hi h => HBA.out i h hi)
      have HBA2 : Hid (∀ k, blockOf B2 = some k → k < w.heap.size → blockOf A = some k) := Lib.hid (fun k h hk => HBA.out k (hB2 k h (by omega)) hk)
      have s2 := fr3.size
      have kb2 := zb2.cell; have fb2 := zb2.frozen; have lb2 := zb2.lt; have kr2 := zr2.cell; have fr2' := zr2.frozen; have lr2 := zr2.lt
      have HO3 : Hid (os2 = bs ++ lowBits v (j + 1)) := by rw [HO2.out, HO.out, List.append_assoc, lowBits_next, ← HX.out]; exact Lib.hid rfl
      have HX3 : Hid (z = v / 2 ^ (j + 1)) := by rw [HZ.out, HX.out, Nat.div_div_eq_div_mul, Nat.pow_succ]; exact Lib.hid rfl
      clear HO2 HO
      go_wp2
      go_roundg (n - (j + 1))
      case measure => omega
      case rel =>
        refine ⟨j + 1, z, B2, m2, d2, os2, by omega, by go_num, rfl, HX3, HO3, ?_, ?_, own3, Frm.new' (Frm.new' fr3 (Nat.le_refl _) _) (Nat.le_refl _) _, HBA2⟩
        all_goals repeat' (first | (with_reducible assumption) | (with_reducible exact Below.refl _ _) | (with_reducible refine Blk.drewN ?_ _) | (with_reducible refine RowIn.drewN ?_ _) | (with_reducible refine below_drewN ?_ _) | (with_reducible refine Blk.drew ?_) | (with_reducible refine RowIn.drew ?_) | (with_reducible refine Below.drew ?_) | (with_reducible refine Blk.new' ?_ ?_ <;> first | (with_reducible rfl) | (simp; done)) | (with_reducible refine Blk.alloc ?_ _) | (with_reducible refine RowIn.alloc ?_ _) | (with_reducible refine Below.alloc ?_ ?_ _) | (with_reducible apply Blk.set') | (with_reducible apply Blk.far') | (with_reducible refine RowIn.far' ?_ ?_ _) | (with_reducible refine Below.far' ?_ ?_ _) | rfl | omega | go_size)
    · obtain rfl : j = n := by omega
      have hrn2 : blockOf B ≠ some (w.heap.size + 1) := own.ne_blk zr (by decide)
      go_wp2
      refine bodyPost_ret (v := .agg #[.slice B m' d', .int .i64 ((os.length : Nat) : Int)]) (by simp [results, Tryd.results74, go_sem, kr, lr]) rfl ?_
      refine ⟨B, m', d', os, rfl, ?_, HO, ?_, HBA.out⟩
      · exact (own.far' hrn2 _).far' hrn2 _
      · exact Frm.new' (Frm.new' fr (by omega) _) (by omega) _

theorem bval_step {bs : List Bool} {p k n : Nat} (hk : k < n) (hp : p + n ≤ bs.length) : bval ((bs.drop (p + k)).take (n - k)) = (if bitAt bs (p + k) then 1 else 0) + 2 * bval ((bs.drop (p + (k + 1))).take (n - (k + 1))) := by
  have h : p + k < bs.length := by omega
  rw [List.drop_eq_getElem_cons h, show n - k = (n - (k + 1)) + 1 by omega, List.take_succ_cons, bval, bitAt_eq h]; rfl
set_option maxRecDepth 100000 in
set_option maxHeartbeats 1000000 in
theorem rvalue_any (A : Option Addr) (m c : Nat) (bs : List Bool) (p n : Nat) (w : World) (ha : Row .u8 w A m (pack bs)) (hc : m ≤ c ∧ c ≤ 9223372036854775807) (hl : bs.length ≤ 330000) (hp : p + n ≤ bs.length) (hn : n ≤ 64) :
    Calls Tryd.prog 68 #[.agg #[.slice A m c, .int .i64 ((bs.length : Nat) : Int)], .int .i64 (p : Nat), .int .i64 (n : Nat)] w fun e w' => ∃ y : Nat, e = .returned (.int .u64 (y : Int)) ∧ Hid (y = bval ((bs.drop p).take n)) ∧ Below w.heap.size w w' := by
  have hri := ha.rowIn
  go_enter Tryd.func68, Tryd.ntmps68
  go_wp2_with fail

  go_loopg [7, 8] n (fun k u v' wr => ∃ (x : Nat) (z : Int), k ≤ n ∧ v' = .int .i64 z ∧ z = (k : Int) - 1 ∧ u = .int .u64 (x : Nat) ∧ Hid (x = bval ((bs.drop (p + k)).take (n - k))) ∧ Blk wr w.heap.size 24 [.slice A m c, .int .i64 ((bs.length : Nat) : Int)] ∧ Below w.heap.size w wr)
  case atStart =>
    refine ⟨0, _, Nat.le_refl _, rfl, rfl, rfl, Lib.hid (by rw [Nat.sub_self]; rfl), ?_, ?_⟩
    all_goals repeat' (first | (with_reducible assumption) | (with_reducible exact Below.refl _ _) | (with_reducible refine Blk.drewN ?_ _) | (with_reducible refine RowIn.drewN ?_ _) | (with_reducible refine below_drewN ?_ _) | (with_reducible refine Blk.drew ?_) | (with_reducible refine RowIn.drew ?_) | (with_reducible refine Below.drew ?_) | (with_reducible refine Blk.new' ?_ ?_ <;> first | (with_reducible rfl) | (simp; done)) | (with_reducible refine Blk.alloc ?_ _) | (with_reducible refine RowIn.alloc ?_ _) | (with_reducible refine Below.alloc ?_ ?_ _) | (with_reducible apply Blk.set') | (with_reducible apply Blk.far') | (with_reducible refine RowIn.far' ?_ ?_ _) | (with_reducible refine Below.far' ?_ ?_ _) | rfl | omega | go_size)
  case round =>
    obtain ⟨x, z, hk, rfl, hz, rfl, HX, zb, bb⟩ := hrel
    have s1 := bb.size
    have kb := zb.cell; have fb := zb.frozen; have lb := zb.lt
    have rb : RowIn .u8 wr 0 w.heap.size A m (pack bs) := hri.below bb (Nat.le_refl _)
    by_cases h0 : gk = 0
    · subst h0
      obtain rfl : z = -1 := by omega
      have HE : Hid (x = bval ((bs.drop p).take n)) := HX
      clear hz
      go_wp2
      go_ret
      exact ⟨x, rfl, HE, bb⟩
    · obtain ⟨j, rfl⟩ : ∃ j, gk = j + 1 := ⟨gk - 1, by omega⟩
      obtain rfl : z = (j : Int) := by omega
      have hx : x < 9223372036854775808 := by
        rw [HX.out]
        have h1 := bval_lt ((bs.drop (p + (j + 1))).take (n - (j + 1)))
        have h2 : 2 ^ ((bs.drop (p + (j + 1))).take (n - (j + 1))).length ≤ 2 ^ 63 := Nat.pow_le_pow_right (by omega) (by rw [List.length_take]; omega)
        have h3 : (2 : Nat) ^ 63 = 9223372036854775808 := by decide
        omega
      clear hz h0
      go_wp2_with fail
      refine (rat_bit A m c _ bs ((p : Int) + (j : Int)) _ rb.row (by omega) (by omega) hl (by omega)).mono ?_
      rintro e w2 ⟨v, rfl, HV, hv1, b2⟩
      have zb2 := zb.after b2
      have bb2 := Below.after bb b2 s1
      have hvw : IntKind.u64.wrap (v : Int) = (v : Int) := IntWalk.u64_in _ (by omega)
      have HN : Hid (2 * x + v = bval ((bs.drop (p + j)).take (n - j))) := by
        have h := HV.out
        rw [show ((p : Int) + (j : Int)).toNat = p + j by omega] at h
        rw [bval_step (by omega) hp, ← HX.out]
        refine Lib.hid ?_
        split at h
        · rename_i hb; rw [hb]; simp; omega
        · rename_i hb; rw [Bool.not_eq_true] at hb; rw [hb]; simp; omega
      go_wp2
      go_roundg j
      case measure => omega
      case rel => exact ⟨2 * x + v, (j : Int) - 1, by omega, rfl, rfl, by go_num, HN, zb2, bb2⟩


end Go.Proofs.YtppilidcjlnmoaaDoor
