/-
  The examples of chapter 7 (Rice codes); the walk of RiceOrder.
-/
import Derived.Test.YtlblkjefngofaaaRiceA
import Derived.Test.YtlblkjefngofaaaRefB
namespace Go.Proofs.Ytlblkjefngofaaa
open Go.RowKit Cad Cad.Bit Cad.Code
set_option linter.unusedVariables false
set_option linter.unusedSimpArgs false

theorem rwrite_ok (A : Option Addr) (m c : Nat) (bs : List Bool) (v k : Nat) (w : World) (ha : Row .u8 w A m (pack bs)) (hc : m ≤ c ∧ c ≤ 9223372036854775807) (hv : v < 4294967296) (hk : k ≤ 24) (hr : bs.length + riceLen v k ≤ 330000) :
    Calls Try.prog 8 #[.agg #[.slice A m c, .int .i64 (bs.length : Nat)], .int .u32 (v : Int), .int .i64 (k : Int)] w (RetB w (bs ++ rice v k) 0) := by
  have h := rwrite_ret A m c bs v (k : Nat) w ha hc (by omega) hv (by omega)
  have e : rwR bs v (k : Nat) = (bs ++ rice v k, 0) := by unfold rwR; rw [if_neg (by omega), Int.toNat_natCast, if_neg (by omega)]
  rw [e] at h; exact h

set_option maxRecDepth 100000 in
set_option maxHeartbeats 400000 in
theorem alive07 (w : World) : Calls Try.prog 6 #[] w fun e w' => e = .returned (.bool true) ∧ Below w.heap.size w w' := by
  go_enter Try.func6, Try.ntmps6
  go_wp2_with fail
  refine (rwrite_ok none 0 0 [] 9 2 _ Row.nil ⟨Nat.le_refl _, Nat.zero_le _⟩ (by omega) (by omega) (by decide)).mono ?_
  rintro e w1 ⟨Aa, ma, ca, xa, rfl, hca, ra, HXa, b1⟩
  have La : xa.length ≤ 5 ∧ 5 ≤ xa.length := by rw [HXa.out]; decide
  obtain ⟨La1, La2⟩ := La
  replace ra := ra.mono (lo' := w.heap.size + 0) (by go_size) (Nat.le_refl _)
  have s1 := b1.size
  try simp only [World.size_alloc, World.size_setCell, World.size_drew, size_drewN] at s1
  obtain ⟨ra_1, bb_1⟩ : RowIn .u8 w1 (w.heap.size + 0) (w1.heap.size) Aa ma (pack xa) ∧ Below w.heap.size w w1 := by
    refine ⟨?_, ?_⟩
    all_goals repeat' (first | (with_reducible assumption) | (with_reducible exact Below.refl _ _) | (with_reducible refine Blk.after ?_ b1) | (with_reducible refine RowIn.belowS ?_ b1) | (with_reducible refine Below.after ?_ b1 ?_) | (with_reducible refine Blk.drewN ?_ _) | (with_reducible refine RowIn.drewN ?_ _) | (with_reducible refine below_drewN ?_ _) | (with_reducible refine Blk.drew ?_) | (with_reducible refine RowIn.drew ?_) | (with_reducible refine Below.drew ?_) | (with_reducible refine Blk.new' ?_ ?_ <;> first | (with_reducible rfl) | (simp; done)) | (with_reducible refine Blk.alloc ?_ _) | (with_reducible refine RowIn.alloc ?_ _) | (with_reducible refine Below.alloc ?_ ?_ _) | (with_reducible apply Blk.set') | (with_reducible apply Blk.far') | (with_reducible refine RowIn.far' ?_ ?_ _) | (with_reducible refine Below.far' ?_ ?_ _) | rfl | omega | go_size)
  clear b1
  clear ra
  go_wp2_with fail
  refine (rlen_ok 47 0 _ (by omega) (by omega)).mono ?_
  rintro e _ ⟨y1, rfl, HY1, rfl⟩
  have hy1 : y1 = 48 := by rw [HY1.out]; decide
  subst hy1
  go_wp2_with fail
  refine (rlen_ok 48 0 _ (by omega) (by omega)).mono ?_
  rintro e _ ⟨y2, rfl, HY2, rfl⟩
  have hy2 : y2 = 80 := by rw [HY2.out]; decide
  subst hy2
  have ta : (((xa.length : Nat) : Int) == 5) = true := beq_iff_eq.2 (by omega)
  have sca := run_str (P := Try.prog) (src := 27) (dst := 9) Try.underlying27 Try.underlying5 Try.underlying9 ca (ra_1.row.alloc (.cells #[.slice Aa ma ca, .int .i64 ((xa.length : Nat) : Int)] 29))
  have sla : ((strOfNums (pack xa)).toList == [11]) = true := by rw [str_lit (pack_u8 _), HXa.out]; decide
  go_wp2
  go_ret
  refine ⟨rfl, ?_⟩
  repeat' (first | (with_reducible assumption) | (with_reducible exact Below.refl _ _) | (with_reducible refine Blk.drewN ?_ _) | (with_reducible refine RowIn.drewN ?_ _) | (with_reducible refine below_drewN ?_ _) | (with_reducible refine Blk.drew ?_) | (with_reducible refine RowIn.drew ?_) | (with_reducible refine Below.drew ?_) | (with_reducible refine Blk.new' ?_ ?_ <;> first | (with_reducible rfl) | (simp; done)) | (with_reducible refine Blk.alloc ?_ _) | (with_reducible refine RowIn.alloc ?_ _) | (with_reducible refine Below.alloc ?_ ?_ _) | (with_reducible apply Blk.set') | (with_reducible apply Blk.far') | (with_reducible refine RowIn.far' ?_ ?_ _) | (with_reducible refine Below.far' ?_ ?_ _) | rfl | omega | go_size)


/-- No code begins another one. -/
theorem rice_apart {v u k : Nat} (hv : v < 4294967296) (hu : u < 4294967296) (h : v ≠ u) : (rice u k).take (riceLen v k) ≠ rice v k := by
  intro e
  have h1 := readR_rice (k := k) hv ((rice u k).drop (riceLen v k))
  rw [← e, List.take_append_drop] at h1
  have h2 := readR_rice (k := k) hu []
  rw [List.append_nil, h1] at h2
  injection h2 with h3 _
  exact h h3
theorem riceLen_low {v k : Nat} (hk : k ≤ 24) : v < 2 ^ k ↔ riceLen v k = k + 1 := by
  have hp := Nat.two_pow_pos k
  have h1 : v / 2 ^ k = 0 ↔ v < 2 ^ k := by
    rw [Nat.div_eq_zero_iff]; omega
  unfold riceLen
  rw [← h1]
  generalize v / 2 ^ k = q
  split <;> omega


set_option maxRecDepth 100000 in
set_option maxHeartbeats 1000000 in
theorem lawRiceOrder (w : World) (v : Int) (hv : 0 ≤ v ∧ v ≤ 4294967295) (u : Int) (hu : 0 ≤ u ∧ u ≤ 4294967295) (k : Int) (hk : -9223372036854775808 ≤ k ∧ k ≤ 9223372036854775807) :
    Calls Try.prog 3 #[.int .u32 v, .int .u32 u, .int .i64 k] w fun e w' => e = .returned (.bool true) ∧ Below w.heap.size w w' := by
  by_cases h1 : k < 0
  · go_enter Try.func3, Try.ntmps3
    go_wp2_with fail
    refine (alive07 _).mono ?_
    rintro e w1 ⟨rfl, b1⟩
    have s1 := b1.size
    try simp only [World.size_alloc, World.size_setCell, World.size_drew, size_drewN] at s1
    have bb_1 : Below w.heap.size w w1 := by
      repeat' (first | (with_reducible assumption) | (with_reducible exact Below.refl _ _) | (with_reducible refine Blk.after ?_ b1) | (with_reducible refine RowIn.belowS ?_ b1) | (with_reducible refine Below.after ?_ b1 ?_) | (with_reducible refine Blk.drewN ?_ _) | (with_reducible refine RowIn.drewN ?_ _) | (with_reducible refine below_drewN ?_ _) | (with_reducible refine Blk.drew ?_) | (with_reducible refine RowIn.drew ?_) | (with_reducible refine Below.drew ?_) | (with_reducible refine Blk.new' ?_ ?_ <;> first | (with_reducible rfl) | (simp; done)) | (with_reducible refine Blk.alloc ?_ _) | (with_reducible refine RowIn.alloc ?_ _) | (with_reducible refine Below.alloc ?_ ?_ _) | (with_reducible apply Blk.set') | (with_reducible apply Blk.far') | (with_reducible refine RowIn.far' ?_ ?_ _) | (with_reducible refine Below.far' ?_ ?_ _) | rfl | omega | go_size)
    clear b1
    go_wp2
    go_ret
    refine ⟨rfl, ?_⟩
    repeat' (first | (with_reducible assumption) | (with_reducible exact Below.refl _ _) | (with_reducible refine Blk.drewN ?_ _) | (with_reducible refine RowIn.drewN ?_ _) | (with_reducible refine below_drewN ?_ _) | (with_reducible refine Blk.drew ?_) | (with_reducible refine RowIn.drew ?_) | (with_reducible refine Below.drew ?_) | (with_reducible refine Blk.new' ?_ ?_ <;> first | (with_reducible rfl) | (simp; done)) | (with_reducible refine Blk.alloc ?_ _) | (with_reducible refine RowIn.alloc ?_ _) | (with_reducible refine Below.alloc ?_ ?_ _) | (with_reducible apply Blk.set') | (with_reducible apply Blk.far') | (with_reducible refine RowIn.far' ?_ ?_ _) | (with_reducible refine Below.far' ?_ ?_ _) | rfl | omega | go_size)
  by_cases h2 : 24 < k
  · go_enter Try.func3, Try.ntmps3
    go_wp2_with fail
    refine (alive07 _).mono ?_
    rintro e w1 ⟨rfl, b1⟩
    have s1 := b1.size
    try simp only [World.size_alloc, World.size_setCell, World.size_drew, size_drewN] at s1
    have bb_1 : Below w.heap.size w w1 := by
      repeat' (first | (with_reducible assumption) | (with_reducible exact Below.refl _ _) | (with_reducible refine Blk.after ?_ b1) | (with_reducible refine RowIn.belowS ?_ b1) | (with_reducible refine Below.after ?_ b1 ?_) | (with_reducible refine Blk.drewN ?_ _) | (with_reducible refine RowIn.drewN ?_ _) | (with_reducible refine below_drewN ?_ _) | (with_reducible refine Blk.drew ?_) | (with_reducible refine RowIn.drew ?_) | (with_reducible refine Below.drew ?_) | (with_reducible refine Blk.new' ?_ ?_ <;> first | (with_reducible rfl) | (simp; done)) | (with_reducible refine Blk.alloc ?_ _) | (with_reducible refine RowIn.alloc ?_ _) | (with_reducible refine Below.alloc ?_ ?_ _) | (with_reducible apply Blk.set') | (with_reducible apply Blk.far') | (with_reducible refine RowIn.far' ?_ ?_ _) | (with_reducible refine Below.far' ?_ ?_ _) | rfl | omega | go_size)
    clear b1
    go_wp2
    go_ret
    refine ⟨rfl, ?_⟩
    repeat' (first | (with_reducible assumption) | (with_reducible exact Below.refl _ _) | (with_reducible refine Blk.drewN ?_ _) | (with_reducible refine RowIn.drewN ?_ _) | (with_reducible refine below_drewN ?_ _) | (with_reducible refine Blk.drew ?_) | (with_reducible refine RowIn.drew ?_) | (with_reducible refine Below.drew ?_) | (with_reducible refine Blk.new' ?_ ?_ <;> first | (with_reducible rfl) | (simp; done)) | (with_reducible refine Blk.alloc ?_ _) | (with_reducible refine RowIn.alloc ?_ _) | (with_reducible refine Below.alloc ?_ ?_ _) | (with_reducible apply Blk.set') | (with_reducible apply Blk.far') | (with_reducible refine RowIn.far' ?_ ?_ _) | (with_reducible refine Below.far' ?_ ?_ _) | rfl | omega | go_size)
  by_cases h3 : u ≤ v
  · go_enter Try.func3, Try.ntmps3
    go_wp2_with fail
    refine (alive07 _).mono ?_
    rintro e w1 ⟨rfl, b1⟩
    have s1 := b1.size
    try simp only [World.size_alloc, World.size_setCell, World.size_drew, size_drewN] at s1
    have bb_1 : Below w.heap.size w w1 := by
      repeat' (first | (with_reducible assumption) | (with_reducible exact Below.refl _ _) | (with_reducible refine Blk.after ?_ b1) | (with_reducible refine RowIn.belowS ?_ b1) | (with_reducible refine Below.after ?_ b1 ?_) | (with_reducible refine Blk.drewN ?_ _) | (with_reducible refine RowIn.drewN ?_ _) | (with_reducible refine below_drewN ?_ _) | (with_reducible refine Blk.drew ?_) | (with_reducible refine RowIn.drew ?_) | (with_reducible refine Below.drew ?_) | (with_reducible refine Blk.new' ?_ ?_ <;> first | (with_reducible rfl) | (simp; done)) | (with_reducible refine Blk.alloc ?_ _) | (with_reducible refine RowIn.alloc ?_ _) | (with_reducible refine Below.alloc ?_ ?_ _) | (with_reducible apply Blk.set') | (with_reducible apply Blk.far') | (with_reducible refine RowIn.far' ?_ ?_ _) | (with_reducible refine Below.far' ?_ ?_ _) | rfl | omega | go_size)
    clear b1
    go_wp2
    go_ret
    refine ⟨rfl, ?_⟩
    repeat' (first | (with_reducible assumption) | (with_reducible exact Below.refl _ _) | (with_reducible refine Blk.drewN ?_ _) | (with_reducible refine RowIn.drewN ?_ _) | (with_reducible refine below_drewN ?_ _) | (with_reducible refine Blk.drew ?_) | (with_reducible refine RowIn.drew ?_) | (with_reducible refine Below.drew ?_) | (with_reducible refine Blk.new' ?_ ?_ <;> first | (with_reducible rfl) | (simp; done)) | (with_reducible refine Blk.alloc ?_ _) | (with_reducible refine RowIn.alloc ?_ _) | (with_reducible refine Below.alloc ?_ ?_ _) | (with_reducible apply Blk.set') | (with_reducible apply Blk.far') | (with_reducible refine RowIn.far' ?_ ?_ _) | (with_reducible refine Below.far' ?_ ?_ _) | rfl | omega | go_size)
  obtain ⟨k, rfl⟩ := Int.eq_ofNat_of_zero_le (by omega : 0 ≤ k)
  obtain ⟨v, rfl⟩ := Int.eq_ofNat_of_zero_le hv.1
  obtain ⟨u, rfl⟩ := Int.eq_ofNat_of_zero_le hu.1
  have hk24 : k ≤ 24 := by omega
  have hv32 : v < 4294967296 := by omega
  have hu32 : u < 4294967296 := by omega
  have hvu : v < u := by omega
  have hp := Nat.two_pow_pos k
  have hp24 : 2 ^ k ≤ 16777216 := Nat.le_trans (Nat.pow_le_pow_right (by omega) hk24) (by decide)
  have e0 : (2 : Int) ^ k % 4294967296 = ((2 ^ k : Nat) : Int) := by rw [pow_cast]; omega
  have HLOW := Lib.hid (riceLen_low (v := v) hk24)
  have HM := Lib.hid (riceLen_mono k hk24 (Nat.le_of_lt hvu))
  obtain ⟨hl1, hl2⟩ := rice_len_le v k hk24
  obtain ⟨hm1, hm2⟩ := rice_len_le u k hk24
  obtain ⟨P, hP⟩ : ∃ P, 2 ^ k = P := ⟨_, rfl⟩
  rw [hP] at e0 hp hp24 HLOW
  clear hP
  go_enter Try.func3, Try.ntmps3
  go_wp2_with fail
  refine (rlen_ok v k _ hk24 hv32).mono ?_
  rintro e _ ⟨a, rfl, HA, rfl⟩
  go_wp2_with fail
  refine (rlen_ok u k _ hk24 hu32).mono ?_
  rintro e _ ⟨b, rfl, HB, rfl⟩
  have ha : a ≤ 80 ∧ b ≤ 80 ∧ a ≤ b ∧ k + 1 ≤ a := by have h1 := HA.out; have h2 := HB.out; have h3 := HM.out; omega
  obtain ⟨ha1, ha2, ha3, ha4⟩ := ha
  go_wp2_with fail
  refine (rwrite_ok none 0 0 [] v k _ Row.nil ⟨Nat.le_refl _, Nat.zero_le _⟩ hv32 hk24 (by rw [← HA.out]; simp; omega)).mono ?_
  rintro e w1 ⟨Ax, mx, cx, xx, rfl, hcx, rx, HXx, b1⟩
  have Lx : xx.length ≤ a ∧ a ≤ xx.length := by rw [HXx.out]; rw [List.nil_append, rice_len]; have := HA.out; omega
  obtain ⟨Lx1, Lx2⟩ := Lx
  replace rx := rx.mono (lo' := w.heap.size + 0) (by go_size) (Nat.le_refl _)
  have s1 := b1.size
  try simp only [World.size_alloc, World.size_setCell, World.size_drew, size_drewN] at s1
  obtain ⟨rx_1, bb_1⟩ : RowIn .u8 w1 (w.heap.size + 0) (w1.heap.size) Ax mx (pack xx) ∧ Below w.heap.size w w1 := by
    refine ⟨?_, ?_⟩
    all_goals repeat' (first | (with_reducible assumption) | (with_reducible exact Below.refl _ _) | (with_reducible refine Blk.after ?_ b1) | (with_reducible refine RowIn.belowS ?_ b1) | (with_reducible refine Below.after ?_ b1 ?_) | (with_reducible refine Blk.drewN ?_ _) | (with_reducible refine RowIn.drewN ?_ _) | (with_reducible refine below_drewN ?_ _) | (with_reducible refine Blk.drew ?_) | (with_reducible refine RowIn.drew ?_) | (with_reducible refine Below.drew ?_) | (with_reducible refine Blk.new' ?_ ?_ <;> first | (with_reducible rfl) | (simp; done)) | (with_reducible refine Blk.alloc ?_ _) | (with_reducible refine RowIn.alloc ?_ _) | (with_reducible refine Below.alloc ?_ ?_ _) | (with_reducible apply Blk.set') | (with_reducible apply Blk.far') | (with_reducible refine RowIn.far' ?_ ?_ _) | (with_reducible refine Below.far' ?_ ?_ _) | rfl | omega | go_size)
  clear b1
  clear rx
  go_wp2_with fail
  refine (rwrite_ok none 0 0 [] u k _ Row.nil ⟨Nat.le_refl _, Nat.zero_le _⟩ hu32 hk24 (by rw [← HB.out]; simp; omega)).mono ?_
  rintro e w2 ⟨Ay, my, cy, xy, rfl, hcy, ry, HXy, b2⟩
  have Ly : xy.length ≤ b ∧ b ≤ xy.length := by rw [HXy.out]; rw [List.nil_append, rice_len]; have := HB.out; omega
  obtain ⟨Ly1, Ly2⟩ := Ly
  replace ry := ry.mono (lo' := w1.heap.size + 1) (by go_size) (Nat.le_refl _)
  have s2 := b2.size
  try simp only [World.size_alloc, World.size_setCell, World.size_drew, size_drewN] at s2
  obtain ⟨zx_2, rx_2, ry_2, bb_2⟩ : Blk w2 (w1.heap.size) 29 [.slice Ax mx cx, .int .i64 ((xx.length : Nat) : Int)] ∧ RowIn .u8 w2 (w.heap.size + 0) (w1.heap.size) Ax mx (pack xx) ∧ RowIn .u8 w2 (w1.heap.size + 1) (w2.heap.size) Ay my (pack xy) ∧ Below w.heap.size w w2 := by
    refine ⟨?_, ?_, ?_, ?_⟩
    all_goals repeat' (first | (with_reducible assumption) | (with_reducible exact Below.refl _ _) | (with_reducible refine Blk.after ?_ b2) | (with_reducible refine RowIn.belowS ?_ b2) | (with_reducible refine Below.after ?_ b2 ?_) | (with_reducible refine Blk.drewN ?_ _) | (with_reducible refine RowIn.drewN ?_ _) | (with_reducible refine below_drewN ?_ _) | (with_reducible refine Blk.drew ?_) | (with_reducible refine RowIn.drew ?_) | (with_reducible refine Below.drew ?_) | (with_reducible refine Blk.new' ?_ ?_ <;> first | (with_reducible rfl) | (simp; done)) | (with_reducible refine Blk.alloc ?_ _) | (with_reducible refine RowIn.alloc ?_ _) | (with_reducible refine Below.alloc ?_ ?_ _) | (with_reducible apply Blk.set') | (with_reducible apply Blk.far') | (with_reducible refine RowIn.far' ?_ ?_ _) | (with_reducible refine Below.far' ?_ ?_ _) | rfl | omega | go_size)
  clear rx_1 bb_1 b2
  have kx_2 := zx_2.cell; have fx_2 := zx_2.frozen; have lx_2 := zx_2.lt
  clear ry
  have t1 : (((xx.length : Nat) : Int) != (a : Int)) = false := by rw [bne_eq_false_iff_eq]; omega
  have t2 : (((xy.length : Nat) : Int) != (b : Int)) = false := by rw [bne_eq_false_iff_eq]; omega
  by_cases hlow : v < P
  · have hak : a = k + 1 := by rw [HA.out]; exact HLOW.out.1 hlow
    have t3 : ((a : Int) == (k : Int) + 1) = true := beq_iff_eq.2 (by omega)
    have t4 : decide ((v : Int) < (P : Int)) = true := decide_eq_true (by omega)
    clear hak
    go_wp2_with fail
    refine (bcut_ok Ay my cy xy _ _ _ (by exact (ry_2.row.alloc _)) hcy (by omega) (by omega) (by omega) (by omega)).mono ?_
    rintro e w3 ⟨Ap, mp, cp, xp, rfl, hcp, rp, HXp, b3⟩
    have Lp : xp.length ≤ a ∧ a ≤ xp.length := by rw [HXp.out]; rw [List.length_take, List.length_drop]; omega
    obtain ⟨Lp1, Lp2⟩ := Lp
    replace rp := rp.mono (lo' := w2.heap.size + 1) (by go_size) (Nat.le_refl _)
    have s3 := b3.size
    try simp only [World.size_alloc, World.size_setCell, World.size_drew, size_drewN] at s3
    obtain ⟨zx_3, zy_3, rx_3, ry_3, rp_3, bb_3⟩ : Blk w3 (w1.heap.size) 29 [.slice Ax mx cx, .int .i64 ((xx.length : Nat) : Int)] ∧ Blk w3 (w2.heap.size) 29 [.slice Ay my cy, .int .i64 ((xy.length : Nat) : Int)] ∧ RowIn .u8 w3 (w.heap.size + 0) (w1.heap.size) Ax mx (pack xx) ∧ RowIn .u8 w3 (w1.heap.size + 1) (w2.heap.size) Ay my (pack xy) ∧ RowIn .u8 w3 (w2.heap.size + 1) (w3.heap.size) Ap mp (pack xp) ∧ Below w.heap.size w w3 := by
      refine ⟨?_, ?_, ?_, ?_, ?_, ?_⟩
      all_goals repeat' (first | (with_reducible assumption) | (with_reducible exact Below.refl _ _) | (with_reducible refine Blk.after ?_ b3) | (with_reducible refine RowIn.belowS ?_ b3) | (with_reducible refine Below.after ?_ b3 ?_) | (with_reducible refine Blk.drewN ?_ _) | (with_reducible refine RowIn.drewN ?_ _) | (with_reducible refine below_drewN ?_ _) | (with_reducible refine Blk.drew ?_) | (with_reducible refine RowIn.drew ?_) | (with_reducible refine Below.drew ?_) | (with_reducible refine Blk.new' ?_ ?_ <;> first | (with_reducible rfl) | (simp; done)) | (with_reducible refine Blk.alloc ?_ _) | (with_reducible refine RowIn.alloc ?_ _) | (with_reducible refine Below.alloc ?_ ?_ _) | (with_reducible apply Blk.set') | (with_reducible apply Blk.far') | (with_reducible refine RowIn.far' ?_ ?_ _) | (with_reducible refine Below.far' ?_ ?_ _) | rfl | omega | go_size)
    clear zx_2 rx_2 ry_2 bb_2 kx_2 fx_2 lx_2 b3
    have kx_3 := zx_3.cell; have fx_3 := zx_3.frozen; have lx_3 := zx_3.lt
    have ky_3 := zy_3.cell; have fy_3 := zy_3.frozen; have ly_3 := zy_3.lt
    clear rp
    have HE : Hid (¬ (((xp.length : Nat) : Int) = ((xx.length : Nat) : Int) ∧ pack xp = pack xx)) := by
      refine Lib.hid ?_
      rintro ⟨_, h⟩
      have h2 := pack_inj (by omega) h
      rw [HXp.out, HXx.out, HXy.out] at h2
      simp only [Int.toNat_natCast, List.nil_append, show ((0 : Int).toNat) = 0 from rfl, List.drop_zero, Nat.sub_zero] at h2
      rw [HA.out] at h2
      exact rice_apart hv32 hu32 (by omega) h2
    go_wp2_with fail
    refine (rsame_ne Ap Ax mp mx cp cx _ _ _ _ _ (by exact (rp_3.row.alloc _)) (by exact (rx_3.row.alloc _)) (pack_u8 _) (pack_u8 _) HE.out).mono ?_
    rintro e w4 ⟨rfl, b4⟩
    have s4 := b4.size
    try simp only [World.size_alloc, World.size_setCell, World.size_drew, size_drewN] at s4
    obtain ⟨zx_4, zy_4, zp_4, rx_4, ry_4, rp_4, bb_4⟩ : Blk w4 (w1.heap.size) 29 [.slice Ax mx cx, .int .i64 ((xx.length : Nat) : Int)] ∧ Blk w4 (w2.heap.size) 29 [.slice Ay my cy, .int .i64 ((xy.length : Nat) : Int)] ∧ Blk w4 (w3.heap.size) 29 [.slice Ap mp cp, .int .i64 ((xp.length : Nat) : Int)] ∧ RowIn .u8 w4 (w.heap.size + 0) (w1.heap.size) Ax mx (pack xx) ∧ RowIn .u8 w4 (w1.heap.size + 1) (w2.heap.size) Ay my (pack xy) ∧ RowIn .u8 w4 (w2.heap.size + 1) (w3.heap.size) Ap mp (pack xp) ∧ Below w.heap.size w w4 := by
      refine ⟨?_, ?_, ?_, ?_, ?_, ?_, ?_⟩
      all_goals repeat' (first | (with_reducible assumption) | (with_reducible exact Below.refl _ _) | (with_reducible refine Blk.after ?_ b4) | (with_reducible refine RowIn.belowS ?_ b4) | (with_reducible refine Below.after ?_ b4 ?_) | (with_reducible refine Blk.drewN ?_ _) | (with_reducible refine RowIn.drewN ?_ _) | (with_reducible refine below_drewN ?_ _) | (with_reducible refine Blk.drew ?_) | (with_reducible refine RowIn.drew ?_) | (with_reducible refine Below.drew ?_) | (with_reducible refine Blk.new' ?_ ?_ <;> first | (with_reducible rfl) | (simp; done)) | (with_reducible refine Blk.alloc ?_ _) | (with_reducible refine RowIn.alloc ?_ _) | (with_reducible refine Below.alloc ?_ ?_ _) | (with_reducible apply Blk.set') | (with_reducible apply Blk.far') | (with_reducible refine RowIn.far' ?_ ?_ _) | (with_reducible refine Below.far' ?_ ?_ _) | rfl | omega | go_size)
    clear zx_3 zy_3 rx_3 ry_3 rp_3 bb_3 kx_3 fx_3 lx_3 ky_3 fy_3 ly_3 b4
    have kx_4 := zx_4.cell; have fx_4 := zx_4.frozen; have lx_4 := zx_4.lt
    have ky_4 := zy_4.cell; have fy_4 := zy_4.frozen; have ly_4 := zy_4.lt
    have kp_4 := zp_4.cell; have fp_4 := zp_4.frozen; have lp_4 := zp_4.lt
    go_wp2_with fail
    refine (alive07 _).mono ?_
    rintro e w5 ⟨rfl, b5⟩
    have s5 := b5.size
    try simp only [World.size_alloc, World.size_setCell, World.size_drew, size_drewN] at s5
    have bb_5 : Below w.heap.size w w5 := by
      repeat' (first | (with_reducible assumption) | (with_reducible exact Below.refl _ _) | (with_reducible refine Blk.after ?_ b5) | (with_reducible refine RowIn.belowS ?_ b5) | (with_reducible refine Below.after ?_ b5 ?_) | (with_reducible refine Blk.drewN ?_ _) | (with_reducible refine RowIn.drewN ?_ _) | (with_reducible refine below_drewN ?_ _) | (with_reducible refine Blk.drew ?_) | (with_reducible refine RowIn.drew ?_) | (with_reducible refine Below.drew ?_) | (with_reducible refine Blk.new' ?_ ?_ <;> first | (with_reducible rfl) | (simp; done)) | (with_reducible refine Blk.alloc ?_ _) | (with_reducible refine RowIn.alloc ?_ _) | (with_reducible refine Below.alloc ?_ ?_ _) | (with_reducible apply Blk.set') | (with_reducible apply Blk.far') | (with_reducible refine RowIn.far' ?_ ?_ _) | (with_reducible refine Below.far' ?_ ?_ _) | rfl | omega | go_size)
    clear zx_4 zy_4 zp_4 rx_4 ry_4 rp_4 bb_4 kx_4 fx_4 lx_4 ky_4 fy_4 ly_4 kp_4 fp_4 lp_4 b5
    go_wp2
    go_ret
    refine ⟨rfl, ?_⟩
    repeat' (first | (with_reducible assumption) | (with_reducible exact Below.refl _ _) | (with_reducible refine Blk.drewN ?_ _) | (with_reducible refine RowIn.drewN ?_ _) | (with_reducible refine below_drewN ?_ _) | (with_reducible refine Blk.drew ?_) | (with_reducible refine RowIn.drew ?_) | (with_reducible refine Below.drew ?_) | (with_reducible refine Blk.new' ?_ ?_ <;> first | (with_reducible rfl) | (simp; done)) | (with_reducible refine Blk.alloc ?_ _) | (with_reducible refine RowIn.alloc ?_ _) | (with_reducible refine Below.alloc ?_ ?_ _) | (with_reducible apply Blk.set') | (with_reducible apply Blk.far') | (with_reducible refine RowIn.far' ?_ ?_ _) | (with_reducible refine Below.far' ?_ ?_ _) | rfl | omega | go_size)
  · have hak : a ≠ k + 1 := by rw [HA.out]; exact fun h => hlow (HLOW.out.2 h)
    have t3 : ((a : Int) == (k : Int) + 1) = false := beq_eq_false_iff_ne.2 (by omega)
    have t4 : decide ((v : Int) < (P : Int)) = false := decide_eq_false (by omega)
    clear hak
    go_wp2_with fail
    refine (bcut_ok Ay my cy xy _ _ _ (by exact (ry_2.row.alloc _)) hcy (by omega) (by omega) (by omega) (by omega)).mono ?_
    rintro e w3 ⟨Ap, mp, cp, xp, rfl, hcp, rp, HXp, b3⟩
    have Lp : xp.length ≤ a ∧ a ≤ xp.length := by rw [HXp.out]; rw [List.length_take, List.length_drop]; omega
    obtain ⟨Lp1, Lp2⟩ := Lp
    replace rp := rp.mono (lo' := w2.heap.size + 1) (by go_size) (Nat.le_refl _)
    have s3 := b3.size
    try simp only [World.size_alloc, World.size_setCell, World.size_drew, size_drewN] at s3
    obtain ⟨zx_3, zy_3, rx_3, ry_3, rp_3, bb_3⟩ : Blk w3 (w1.heap.size) 29 [.slice Ax mx cx, .int .i64 ((xx.length : Nat) : Int)] ∧ Blk w3 (w2.heap.size) 29 [.slice Ay my cy, .int .i64 ((xy.length : Nat) : Int)] ∧ RowIn .u8 w3 (w.heap.size + 0) (w1.heap.size) Ax mx (pack xx) ∧ RowIn .u8 w3 (w1.heap.size + 1) (w2.heap.size) Ay my (pack xy) ∧ RowIn .u8 w3 (w2.heap.size + 1) (w3.heap.size) Ap mp (pack xp) ∧ Below w.heap.size w w3 := by
      refine ⟨?_, ?_, ?_, ?_, ?_, ?_⟩
      all_goals repeat' (first | (with_reducible assumption) | (with_reducible exact Below.refl _ _) | (with_reducible refine Blk.after ?_ b3) | (with_reducible refine RowIn.belowS ?_ b3) | (with_reducible refine Below.after ?_ b3 ?_) | (with_reducible refine Blk.drewN ?_ _) | (with_reducible refine RowIn.drewN ?_ _) | (with_reducible refine below_drewN ?_ _) | (with_reducible refine Blk.drew ?_) | (with_reducible refine RowIn.drew ?_) | (with_reducible refine Below.drew ?_) | (with_reducible refine Blk.new' ?_ ?_ <;> first | (with_reducible rfl) | (simp; done)) | (with_reducible refine Blk.alloc ?_ _) | (with_reducible refine RowIn.alloc ?_ _) | (with_reducible refine Below.alloc ?_ ?_ _) | (with_reducible apply Blk.set') | (with_reducible apply Blk.far') | (with_reducible refine RowIn.far' ?_ ?_ _) | (with_reducible refine Below.far' ?_ ?_ _) | rfl | omega | go_size)
    clear zx_2 rx_2 ry_2 bb_2 kx_2 fx_2 lx_2 b3
    have kx_3 := zx_3.cell; have fx_3 := zx_3.frozen; have lx_3 := zx_3.lt
    have ky_3 := zy_3.cell; have fy_3 := zy_3.frozen; have ly_3 := zy_3.lt
    clear rp
    have HE : Hid (¬ (((xp.length : Nat) : Int) = ((xx.length : Nat) : Int) ∧ pack xp = pack xx)) := by
      refine Lib.hid ?_
      rintro ⟨_, h⟩
      have h2 := pack_inj (by omega) h
      rw [HXp.out, HXx.out, HXy.out] at h2
      simp only [Int.toNat_natCast, List.nil_append, show ((0 : Int).toNat) = 0 from rfl, List.drop_zero, Nat.sub_zero] at h2
      rw [HA.out] at h2
      exact rice_apart hv32 hu32 (by omega) h2
    go_wp2_with fail
    refine (rsame_ne Ap Ax mp mx cp cx _ _ _ _ _ (by exact (rp_3.row.alloc _)) (by exact (rx_3.row.alloc _)) (pack_u8 _) (pack_u8 _) HE.out).mono ?_
    rintro e w4 ⟨rfl, b4⟩
    have s4 := b4.size
    try simp only [World.size_alloc, World.size_setCell, World.size_drew, size_drewN] at s4
    obtain ⟨zx_4, zy_4, zp_4, rx_4, ry_4, rp_4, bb_4⟩ : Blk w4 (w1.heap.size) 29 [.slice Ax mx cx, .int .i64 ((xx.length : Nat) : Int)] ∧ Blk w4 (w2.heap.size) 29 [.slice Ay my cy, .int .i64 ((xy.length : Nat) : Int)] ∧ Blk w4 (w3.heap.size) 29 [.slice Ap mp cp, .int .i64 ((xp.length : Nat) : Int)] ∧ RowIn .u8 w4 (w.heap.size + 0) (w1.heap.size) Ax mx (pack xx) ∧ RowIn .u8 w4 (w1.heap.size + 1) (w2.heap.size) Ay my (pack xy) ∧ RowIn .u8 w4 (w2.heap.size + 1) (w3.heap.size) Ap mp (pack xp) ∧ Below w.heap.size w w4 := by
      refine ⟨?_, ?_, ?_, ?_, ?_, ?_, ?_⟩
      all_goals repeat' (first | (with_reducible assumption) | (with_reducible exact Below.refl _ _) | (with_reducible refine Blk.after ?_ b4) | (with_reducible refine RowIn.belowS ?_ b4) | (with_reducible refine Below.after ?_ b4 ?_) | (with_reducible refine Blk.drewN ?_ _) | (with_reducible refine RowIn.drewN ?_ _) | (with_reducible refine below_drewN ?_ _) | (with_reducible refine Blk.drew ?_) | (with_reducible refine RowIn.drew ?_) | (with_reducible refine Below.drew ?_) | (with_reducible refine Blk.new' ?_ ?_ <;> first | (with_reducible rfl) | (simp; done)) | (with_reducible refine Blk.alloc ?_ _) | (with_reducible refine RowIn.alloc ?_ _) | (with_reducible refine Below.alloc ?_ ?_ _) | (with_reducible apply Blk.set') | (with_reducible apply Blk.far') | (with_reducible refine RowIn.far' ?_ ?_ _) | (with_reducible refine Below.far' ?_ ?_ _) | rfl | omega | go_size)
    clear zx_3 zy_3 rx_3 ry_3 rp_3 bb_3 kx_3 fx_3 lx_3 ky_3 fy_3 ly_3 b4
    have kx_4 := zx_4.cell; have fx_4 := zx_4.frozen; have lx_4 := zx_4.lt
    have ky_4 := zy_4.cell; have fy_4 := zy_4.frozen; have ly_4 := zy_4.lt
    have kp_4 := zp_4.cell; have fp_4 := zp_4.frozen; have lp_4 := zp_4.lt
    go_wp2_with fail
    refine (alive07 _).mono ?_
    rintro e w5 ⟨rfl, b5⟩
    have s5 := b5.size
    try simp only [World.size_alloc, World.size_setCell, World.size_drew, size_drewN] at s5
    have bb_5 : Below w.heap.size w w5 := by
      repeat' (first | (with_reducible assumption) | (with_reducible exact Below.refl _ _) | (with_reducible refine Blk.after ?_ b5) | (with_reducible refine RowIn.belowS ?_ b5) | (with_reducible refine Below.after ?_ b5 ?_) | (with_reducible refine Blk.drewN ?_ _) | (with_reducible refine RowIn.drewN ?_ _) | (with_reducible refine below_drewN ?_ _) | (with_reducible refine Blk.drew ?_) | (with_reducible refine RowIn.drew ?_) | (with_reducible refine Below.drew ?_) | (with_reducible refine Blk.new' ?_ ?_ <;> first | (with_reducible rfl) | (simp; done)) | (with_reducible refine Blk.alloc ?_ _) | (with_reducible refine RowIn.alloc ?_ _) | (with_reducible refine Below.alloc ?_ ?_ _) | (with_reducible apply Blk.set') | (with_reducible apply Blk.far') | (with_reducible refine RowIn.far' ?_ ?_ _) | (with_reducible refine Below.far' ?_ ?_ _) | rfl | omega | go_size)
    clear zx_4 zy_4 zp_4 rx_4 ry_4 rp_4 bb_4 kx_4 fx_4 lx_4 ky_4 fy_4 ly_4 kp_4 fp_4 lp_4 b5
    go_wp2
    go_ret
    refine ⟨rfl, ?_⟩
    repeat' (first | (with_reducible assumption) | (with_reducible exact Below.refl _ _) | (with_reducible refine Blk.drewN ?_ _) | (with_reducible refine RowIn.drewN ?_ _) | (with_reducible refine below_drewN ?_ _) | (with_reducible refine Blk.drew ?_) | (with_reducible refine RowIn.drew ?_) | (with_reducible refine Below.drew ?_) | (with_reducible refine Blk.new' ?_ ?_ <;> first | (with_reducible rfl) | (simp; done)) | (with_reducible refine Blk.alloc ?_ _) | (with_reducible refine RowIn.alloc ?_ _) | (with_reducible refine Below.alloc ?_ ?_ _) | (with_reducible apply Blk.set') | (with_reducible apply Blk.far') | (with_reducible refine RowIn.far' ?_ ?_ _) | (with_reducible refine Below.far' ?_ ?_ _) | rfl | omega | go_size)


end Go.Proofs.Ytlblkjefngofaaa
