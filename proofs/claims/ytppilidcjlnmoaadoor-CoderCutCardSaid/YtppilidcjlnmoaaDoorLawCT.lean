/-
  The walk of CoderCut.
-/
import Derived.Test.YtppilidcjlnmoaaDoorCodM
import Derived.Test.YtppilidcjlnmoaaDoorRefB
namespace Go.Proofs.YtppilidcjlnmoaaDoor
open Go.RowKit Cad Cad.Bit Cad.Code
set_option linter.unusedVariables false
set_option linter.unusedSimpArgs false


theorem part_row {k : IntKind} {w : World} {lo hi : Nat} {A : Option Addr} {n : Nat} {xs : List Int} (h : RowIn k w lo hi A n xs) {j : Nat} (hj : j ≤ n) : RowIn k w lo hi A j (xs.take j) := by
  refine ⟨by rw [List.length_take, h.len]; omega, fun hp => ?_⟩
  obtain ⟨b, off, e, h1, h2, hc⟩ := h.2 (by omega)
  exact ⟨b, off, e, h1, h2, fun i hi => by rw [hc i (by omega), nth_take hi]⟩
theorem within_take {lo hi : Int} {xs : List Int} (h : Within lo hi xs) (j : Nat) : Within lo hi (xs.take j) := fun x hx => h x (List.mem_of_mem_take hx)


set_option maxRecDepth 100000 in
set_option maxHeartbeats 8000000 in
theorem lawCoderCut (w : World) (ht : Tab w) (Al : Option Addr) (nl cl : Nat) (xsl : List Int) (hAl : RowC .u32 w Al nl cl xsl) (hxl : Within 0 4294967295 xsl) (p : Int) (hp : -9223372036854775808 ≤ p ∧ p ≤ 9223372036854775807) :
    Calls Tryd.prog 11 #[.slice Al nl cl, .int .i64 p] w fun e w' => e = .returned (.bool true) ∧ Below w.heap.size w w' := by
  have hal := hAl.row
  have hcl := hAl.2
  have hril := hal.rowIn
  have HLl := Lib.hid hal.len
  have hti : RowIn .u8 w 0 w.heap.size (some ⟨0, 0, none⟩) 64 dbTab := ht.rowIn
  by_cases h0 : nl < 1
  · have t0 : decide ((nl : Int) < 1) = true := decide_eq_true (by omega)
    go_enter Tryd.func11, Tryd.ntmps11
    go_wp2_with fail
    refine (alive09 _ (by exact RowIn.row (lo := 0) (hi := w.heap.size) (by repeat' (first | (with_reducible assumption) | (with_reducible exact Below.refl _ _) | (with_reducible refine Blk.drewN ?_ _) | (with_reducible refine RowIn.drewN ?_ _) | (with_reducible refine below_drewN ?_ _) | (with_reducible refine Blk.drew ?_) | (with_reducible refine RowIn.drew ?_) | (with_reducible refine Below.drew ?_) | (with_reducible refine Blk.new' ?_ ?_ <;> first | (with_reducible rfl) | (simp; done)) | (with_reducible refine Blk.alloc ?_ _) | (with_reducible refine RowIn.alloc ?_ _) | (with_reducible refine Below.alloc ?_ ?_ _) | (with_reducible apply Blk.set') | (with_reducible apply Blk.far') | (with_reducible refine RowIn.far' ?_ ?_ _) | (with_reducible refine Below.far' ?_ ?_ _) | rfl | omega | go_size)))).mono ?_
    rintro e w1 ⟨rfl, b1⟩
    have s1 := b1.size
    try simp only [World.size_alloc, World.size_setCell, World.size_drew, size_drewN] at s1
    have bb_1 : Below w.heap.size w w1 := by
      repeat' (first | (with_reducible assumption) | (with_reducible exact Below.refl _ _) | (with_reducible refine Blk.drewN ?_ _) | (with_reducible refine RowIn.drewN ?_ _) | (with_reducible refine below_drewN ?_ _) | (with_reducible refine Blk.drew ?_) | (with_reducible refine RowIn.drew ?_) | (with_reducible refine Below.drew ?_) | (with_reducible refine Blk.new' ?_ ?_ <;> first | (with_reducible rfl) | (simp; done)) | (with_reducible refine Blk.alloc ?_ _) | (with_reducible refine RowIn.alloc ?_ _) | (with_reducible refine Below.alloc ?_ ?_ _) | (with_reducible apply Blk.set') | (with_reducible apply Blk.far') | (with_reducible refine RowIn.far' ?_ ?_ _) | (with_reducible refine Below.far' ?_ ?_ _) | (with_reducible refine Blk.after ?_ b1) | (with_reducible refine RowIn.belowS ?_ b1) | (with_reducible refine Below.after ?_ b1 ?_) | rfl | omega | go_size)
    clear b1
    go_wp2
    go_ret
    refine ⟨rfl, ?_⟩
    repeat' (first | (with_reducible assumption) | (with_reducible exact Below.refl _ _) | (with_reducible refine Blk.drewN ?_ _) | (with_reducible refine RowIn.drewN ?_ _) | (with_reducible refine below_drewN ?_ _) | (with_reducible refine Blk.drew ?_) | (with_reducible refine RowIn.drew ?_) | (with_reducible refine Below.drew ?_) | (with_reducible refine Blk.new' ?_ ?_ <;> first | (with_reducible rfl) | (simp; done)) | (with_reducible refine Blk.alloc ?_ _) | (with_reducible refine RowIn.alloc ?_ _) | (with_reducible refine Below.alloc ?_ ?_ _) | (with_reducible apply Blk.set') | (with_reducible apply Blk.far') | (with_reducible refine RowIn.far' ?_ ?_ _) | (with_reducible refine Below.far' ?_ ?_ _) | rfl | omega | go_size)
  by_cases h1 : 100 < nl
  · have t0 : decide ((nl : Int) < 1) = false := decide_eq_false (by omega)
    have t1 : decide ((100 : Int) < (nl : Int)) = true := decide_eq_true (by omega)
    go_enter Tryd.func11, Tryd.ntmps11
    go_wp2_with fail
    refine (alive09 _ (by exact RowIn.row (lo := 0) (hi := w.heap.size) (by repeat' (first | (with_reducible assumption) | (with_reducible exact Below.refl _ _) | (with_reducible refine Blk.drewN ?_ _) | (with_reducible refine RowIn.drewN ?_ _) | (with_reducible refine below_drewN ?_ _) | (with_reducible refine Blk.drew ?_) | (with_reducible refine RowIn.drew ?_) | (with_reducible refine Below.drew ?_) | (with_reducible refine Blk.new' ?_ ?_ <;> first | (with_reducible rfl) | (simp; done)) | (with_reducible refine Blk.alloc ?_ _) | (with_reducible refine RowIn.alloc ?_ _) | (with_reducible refine Below.alloc ?_ ?_ _) | (with_reducible apply Blk.set') | (with_reducible apply Blk.far') | (with_reducible refine RowIn.far' ?_ ?_ _) | (with_reducible refine Below.far' ?_ ?_ _) | rfl | omega | go_size)))).mono ?_
    rintro e w1 ⟨rfl, b1⟩
    have s1 := b1.size
    try simp only [World.size_alloc, World.size_setCell, World.size_drew, size_drewN] at s1
    have bb_1 : Below w.heap.size w w1 := by
      repeat' (first | (with_reducible assumption) | (with_reducible exact Below.refl _ _) | (with_reducible refine Blk.drewN ?_ _) | (with_reducible refine RowIn.drewN ?_ _) | (with_reducible refine below_drewN ?_ _) | (with_reducible refine Blk.drew ?_) | (with_reducible refine RowIn.drew ?_) | (with_reducible refine Below.drew ?_) | (with_reducible refine Blk.new' ?_ ?_ <;> first | (with_reducible rfl) | (simp; done)) | (with_reducible refine Blk.alloc ?_ _) | (with_reducible refine RowIn.alloc ?_ _) | (with_reducible refine Below.alloc ?_ ?_ _) | (with_reducible apply Blk.set') | (with_reducible apply Blk.far') | (with_reducible refine RowIn.far' ?_ ?_ _) | (with_reducible refine Below.far' ?_ ?_ _) | (with_reducible refine Blk.after ?_ b1) | (with_reducible refine RowIn.belowS ?_ b1) | (with_reducible refine Below.after ?_ b1 ?_) | rfl | omega | go_size)
    clear b1
    go_wp2
    go_ret
    refine ⟨rfl, ?_⟩
    repeat' (first | (with_reducible assumption) | (with_reducible exact Below.refl _ _) | (with_reducible refine Blk.drewN ?_ _) | (with_reducible refine RowIn.drewN ?_ _) | (with_reducible refine below_drewN ?_ _) | (with_reducible refine Blk.drew ?_) | (with_reducible refine RowIn.drew ?_) | (with_reducible refine Below.drew ?_) | (with_reducible refine Blk.new' ?_ ?_ <;> first | (with_reducible rfl) | (simp; done)) | (with_reducible refine Blk.alloc ?_ _) | (with_reducible refine RowIn.alloc ?_ _) | (with_reducible refine Below.alloc ?_ ?_ _) | (with_reducible apply Blk.set') | (with_reducible apply Blk.far') | (with_reducible refine RowIn.far' ?_ ?_ _) | (with_reducible refine Below.far' ?_ ?_ _) | rfl | omega | go_size)
  have t0 : decide ((nl : Int) < 1) = false := decide_eq_false (by omega)
  have t1 : decide ((100 : Int) < (nl : Int)) = false := decide_eq_false (by omega)
  go_enter Tryd.func11, Tryd.ntmps11
  go_wp2_with fail
  refine (cenc_ok Al nl cl xsl _ (by exact RowIn.row (lo := 0) (hi := w.heap.size) (by repeat' (first | (with_reducible assumption) | (with_reducible exact Below.refl _ _) | (with_reducible refine Blk.drewN ?_ _) | (with_reducible refine RowIn.drewN ?_ _) | (with_reducible refine below_drewN ?_ _) | (with_reducible refine Blk.drew ?_) | (with_reducible refine RowIn.drew ?_) | (with_reducible refine Below.drew ?_) | (with_reducible refine Blk.new' ?_ ?_ <;> first | (with_reducible rfl) | (simp; done)) | (with_reducible refine Blk.alloc ?_ _) | (with_reducible refine RowIn.alloc ?_ _) | (with_reducible refine Below.alloc ?_ ?_ _) | (with_reducible apply Blk.set') | (with_reducible apply Blk.far') | (with_reducible refine RowIn.far' ?_ ?_ _) | (with_reducible refine Below.far' ?_ ?_ _) | rfl | omega | go_size))) hxl (by omega)).mono ?_
  rintro e w1 ⟨Ab, mb, cb, xb, rfl, hcb, rb, HXb, b1⟩
  replace rb := rb.mono (lo' := w.heap.size + 0) (by go_size) (Nat.le_refl _)
  have s1 := b1.size
  try simp only [World.size_alloc, World.size_setCell, World.size_drew, size_drewN] at s1
  obtain ⟨rl_1, rt_1, rb_1, bb_1⟩ : RowIn .u32 w1 (0) (w.heap.size) Al nl xsl ∧ RowIn .u8 w1 (0) (w.heap.size) (some ⟨0, 0, none⟩) 64 dbTab ∧ RowIn .u8 w1 (w.heap.size + 0) (w1.heap.size) Ab mb (pack xb) ∧ Below w.heap.size w w1 := by
    refine ⟨?_, ?_, ?_, ?_⟩
    all_goals repeat' (first | (with_reducible assumption) | (with_reducible exact Below.refl _ _) | (with_reducible refine Blk.drewN ?_ _) | (with_reducible refine RowIn.drewN ?_ _) | (with_reducible refine below_drewN ?_ _) | (with_reducible refine Blk.drew ?_) | (with_reducible refine RowIn.drew ?_) | (with_reducible refine Below.drew ?_) | (with_reducible refine Blk.new' ?_ ?_ <;> first | (with_reducible rfl) | (simp; done)) | (with_reducible refine Blk.alloc ?_ _) | (with_reducible refine RowIn.alloc ?_ _) | (with_reducible refine Below.alloc ?_ ?_ _) | (with_reducible apply Blk.set') | (with_reducible apply Blk.far') | (with_reducible refine RowIn.far' ?_ ?_ _) | (with_reducible refine Below.far' ?_ ?_ _) | (with_reducible refine Blk.after ?_ b1) | (with_reducible refine RowIn.belowS ?_ b1) | (with_reducible refine Below.after ?_ b1 ?_) | rfl | omega | go_size)
  clear b1
  clear rb
  have hbl := codeP_le start_ok hxl nl
  rw [← HXb.out] at hbl
  obtain ⟨hbl1, hbl2⟩ := hbl
  by_cases h2 : p < 0
  · go_wp2_with fail
    refine (alive09 _ (by exact RowIn.row (lo := 0) (hi := w.heap.size) (by repeat' (first | (with_reducible assumption) | (with_reducible exact Below.refl _ _) | (with_reducible refine Blk.drewN ?_ _) | (with_reducible refine RowIn.drewN ?_ _) | (with_reducible refine below_drewN ?_ _) | (with_reducible refine Blk.drew ?_) | (with_reducible refine RowIn.drew ?_) | (with_reducible refine Below.drew ?_) | (with_reducible refine Blk.new' ?_ ?_ <;> first | (with_reducible rfl) | (simp; done)) | (with_reducible refine Blk.alloc ?_ _) | (with_reducible refine RowIn.alloc ?_ _) | (with_reducible refine Below.alloc ?_ ?_ _) | (with_reducible apply Blk.set') | (with_reducible apply Blk.far') | (with_reducible refine RowIn.far' ?_ ?_ _) | (with_reducible refine Below.far' ?_ ?_ _) | rfl | omega | go_size)))).mono ?_
    rintro e w2 ⟨rfl, b2⟩
    have s2 := b2.size
    try simp only [World.size_alloc, World.size_setCell, World.size_drew, size_drewN] at s2
    have bb_2 : Below w.heap.size w w2 := by
      repeat' (first | (with_reducible assumption) | (with_reducible exact Below.refl _ _) | (with_reducible refine Blk.drewN ?_ _) | (with_reducible refine RowIn.drewN ?_ _) | (with_reducible refine below_drewN ?_ _) | (with_reducible refine Blk.drew ?_) | (with_reducible refine RowIn.drew ?_) | (with_reducible refine Below.drew ?_) | (with_reducible refine Blk.new' ?_ ?_ <;> first | (with_reducible rfl) | (simp; done)) | (with_reducible refine Blk.alloc ?_ _) | (with_reducible refine RowIn.alloc ?_ _) | (with_reducible refine Below.alloc ?_ ?_ _) | (with_reducible apply Blk.set') | (with_reducible apply Blk.far') | (with_reducible refine RowIn.far' ?_ ?_ _) | (with_reducible refine Below.far' ?_ ?_ _) | (with_reducible refine Blk.after ?_ b2) | (with_reducible refine RowIn.belowS ?_ b2) | (with_reducible refine Below.after ?_ b2 ?_) | rfl | omega | go_size)
    clear rl_1 rt_1 rb_1 bb_1 b2
    go_wp2
    go_ret
    refine ⟨rfl, ?_⟩
    repeat' (first | (with_reducible assumption) | (with_reducible exact Below.refl _ _) | (with_reducible refine Blk.drewN ?_ _) | (with_reducible refine RowIn.drewN ?_ _) | (with_reducible refine below_drewN ?_ _) | (with_reducible refine Blk.drew ?_) | (with_reducible refine RowIn.drew ?_) | (with_reducible refine Below.drew ?_) | (with_reducible refine Blk.new' ?_ ?_ <;> first | (with_reducible rfl) | (simp; done)) | (with_reducible refine Blk.alloc ?_ _) | (with_reducible refine RowIn.alloc ?_ _) | (with_reducible refine Below.alloc ?_ ?_ _) | (with_reducible apply Blk.set') | (with_reducible apply Blk.far') | (with_reducible refine RowIn.far' ?_ ?_ _) | (with_reducible refine Below.far' ?_ ?_ _) | rfl | omega | go_size)
  by_cases h3 : (xb.length : Int) ≤ p
  · go_wp2_with fail
    refine (alive09 _ (by exact RowIn.row (lo := 0) (hi := w.heap.size) (by repeat' (first | (with_reducible assumption) | (with_reducible exact Below.refl _ _) | (with_reducible refine Blk.drewN ?_ _) | (with_reducible refine RowIn.drewN ?_ _) | (with_reducible refine below_drewN ?_ _) | (with_reducible refine Blk.drew ?_) | (with_reducible refine RowIn.drew ?_) | (with_reducible refine Below.drew ?_) | (with_reducible refine Blk.new' ?_ ?_ <;> first | (with_reducible rfl) | (simp; done)) | (with_reducible refine Blk.alloc ?_ _) | (with_reducible refine RowIn.alloc ?_ _) | (with_reducible refine Below.alloc ?_ ?_ _) | (with_reducible apply Blk.set') | (with_reducible apply Blk.far') | (with_reducible refine RowIn.far' ?_ ?_ _) | (with_reducible refine Below.far' ?_ ?_ _) | rfl | omega | go_size)))).mono ?_
    rintro e w2 ⟨rfl, b2⟩
    have s2 := b2.size
    try simp only [World.size_alloc, World.size_setCell, World.size_drew, size_drewN] at s2
    have bb_2 : Below w.heap.size w w2 := by
      repeat' (first | (with_reducible assumption) | (with_reducible exact Below.refl _ _) | (with_reducible refine Blk.drewN ?_ _) | (with_reducible refine RowIn.drewN ?_ _) | (with_reducible refine below_drewN ?_ _) | (with_reducible refine Blk.drew ?_) | (with_reducible refine RowIn.drew ?_) | (with_reducible refine Below.drew ?_) | (with_reducible refine Blk.new' ?_ ?_ <;> first | (with_reducible rfl) | (simp; done)) | (with_reducible refine Blk.alloc ?_ _) | (with_reducible refine RowIn.alloc ?_ _) | (with_reducible refine Below.alloc ?_ ?_ _) | (with_reducible apply Blk.set') | (with_reducible apply Blk.far') | (with_reducible refine RowIn.far' ?_ ?_ _) | (with_reducible refine Below.far' ?_ ?_ _) | (with_reducible refine Blk.after ?_ b2) | (with_reducible refine RowIn.belowS ?_ b2) | (with_reducible refine Below.after ?_ b2 ?_) | rfl | omega | go_size)
    clear rl_1 rt_1 rb_1 bb_1 b2
    go_wp2
    go_ret
    refine ⟨rfl, ?_⟩
    repeat' (first | (with_reducible assumption) | (with_reducible exact Below.refl _ _) | (with_reducible refine Blk.drewN ?_ _) | (with_reducible refine RowIn.drewN ?_ _) | (with_reducible refine below_drewN ?_ _) | (with_reducible refine Blk.drew ?_) | (with_reducible refine RowIn.drew ?_) | (with_reducible refine Below.drew ?_) | (with_reducible refine Blk.new' ?_ ?_ <;> first | (with_reducible rfl) | (simp; done)) | (with_reducible refine Blk.alloc ?_ _) | (with_reducible refine RowIn.alloc ?_ _) | (with_reducible refine Below.alloc ?_ ?_ _) | (with_reducible apply Blk.set') | (with_reducible apply Blk.far') | (with_reducible refine RowIn.far' ?_ ?_ _) | (with_reducible refine Below.far' ?_ ?_ _) | rfl | omega | go_size)
  obtain ⟨p, rfl⟩ := Int.eq_ofNat_of_zero_le (by omega : 0 ≤ p)
  go_wp2_with fail
  refine (bcut_ok Ab mb cb xb 0 (p : Nat) _ (by exact RowIn.row (lo := w.heap.size + 0) (hi := w1.heap.size) (by repeat' (first | (with_reducible assumption) | (with_reducible exact Below.refl _ _) | (with_reducible refine Blk.drewN ?_ _) | (with_reducible refine RowIn.drewN ?_ _) | (with_reducible refine below_drewN ?_ _) | (with_reducible refine Blk.drew ?_) | (with_reducible refine RowIn.drew ?_) | (with_reducible refine Below.drew ?_) | (with_reducible refine Blk.new' ?_ ?_ <;> first | (with_reducible rfl) | (simp; done)) | (with_reducible refine Blk.alloc ?_ _) | (with_reducible refine RowIn.alloc ?_ _) | (with_reducible refine Below.alloc ?_ ?_ _) | (with_reducible apply Blk.set') | (with_reducible apply Blk.far') | (with_reducible refine RowIn.far' ?_ ?_ _) | (with_reducible refine Below.far' ?_ ?_ _) | rfl | omega | go_size))) hcb (by omega) (by omega) (by omega) (by omega)).mono ?_
  rintro e w2 ⟨Ap, mp, cp, xp, rfl, hcp, rp, HXp, b2⟩
  have Lp : xp.length ≤ p ∧ p ≤ xp.length := by rw [HXp.out]; rw [List.length_take, List.length_drop]; omega
  obtain ⟨Lp1, Lp2⟩ := Lp
  replace rp := rp.mono (lo' := w1.heap.size + 1) (by go_size) (Nat.le_refl _)
  have s2 := b2.size
  try simp only [World.size_alloc, World.size_setCell, World.size_drew, size_drewN] at s2
  obtain ⟨zb_2, rl_2, rt_2, rb_2, rp_2, bb_2⟩ : Blk w2 (w1.heap.size) 24 [.slice Ab mb cb, .int .i64 ((xb.length : Nat) : Int)] ∧ RowIn .u32 w2 (0) (w.heap.size) Al nl xsl ∧ RowIn .u8 w2 (0) (w.heap.size) (some ⟨0, 0, none⟩) 64 dbTab ∧ RowIn .u8 w2 (w.heap.size + 0) (w1.heap.size) Ab mb (pack xb) ∧ RowIn .u8 w2 (w1.heap.size + 1) (w2.heap.size) Ap mp (pack xp) ∧ Below w.heap.size w w2 := by
    refine ⟨?_, ?_, ?_, ?_, ?_, ?_⟩
    all_goals repeat' (first | (with_reducible assumption) | (with_reducible exact Below.refl _ _) | (with_reducible refine Blk.drewN ?_ _) | (with_reducible refine RowIn.drewN ?_ _) | (with_reducible refine below_drewN ?_ _) | (with_reducible refine Blk.drew ?_) | (with_reducible refine RowIn.drew ?_) | (with_reducible refine Below.drew ?_) | (with_reducible refine Blk.new' ?_ ?_ <;> first | (with_reducible rfl) | (simp; done)) | (with_reducible refine Blk.alloc ?_ _) | (with_reducible refine RowIn.alloc ?_ _) | (with_reducible refine Below.alloc ?_ ?_ _) | (with_reducible apply Blk.set') | (with_reducible apply Blk.far') | (with_reducible refine RowIn.far' ?_ ?_ _) | (with_reducible refine Below.far' ?_ ?_ _) | (with_reducible refine Blk.after ?_ b2) | (with_reducible refine RowIn.belowS ?_ b2) | (with_reducible refine Below.after ?_ b2 ?_) | rfl | omega | go_size)
  clear rl_1 rt_1 rb_1 bb_1 b2
  have kb_2 := zb_2.cell; have fb_2 := zb_2.frozen; have lb_2 := zb_2.lt
  clear rp
  have HPT : Hid (xp = (codeL Cad.Code.start (pre xsl nl)).take p) := Lib.hid (by rw [HXp.out, HXb.out]; simp only [Int.toNat_natCast, show ((0 : Int).toNat) = 0 from rfl, List.drop_zero, Nat.sub_zero]; rfl)
  have HDC : Hid (∀ n, n ≤ nl → decR xp (n : Int) = if lenP Cad.Code.start xsl n ≤ p then (pre xsl n, ((lenP Cad.Code.start xsl n : Nat) : Int), 0) else ([], 0, 24)) := Lib.hid (fun n hn => by
    have hl : (pre xsl nl).length = nl := pre_len _ _
    unfold decR
    rw [if_neg (by omega), if_neg (by omega), Int.toNat_natCast, HPT.out]
    by_cases h : lenP Cad.Code.start xsl n ≤ p
    · have hr := readL_take_ok (d := Cad.Code.start) (pre xsl nl) (pre_small hxl nl) (n := n) (by omega) (left := p) (by rw [pre_take xsl hn]; exact h)
      rw [hr, if_pos h, pre_take xsl hn]; rfl
    · have hr := readL_take_err start_ok (pre xsl nl) (pre_small hxl nl) (n := n) (by omega) (left := p) (by rw [pre_take xsl hn]; exact Nat.lt_of_not_le h)
      rw [hr, if_neg h]; rfl)
  have hlpn : lenP Cad.Code.start xsl nl = xb.length := by rw [HXb.out]; rfl
  have HD0 : Hid (decR xp (nl : Int) = ([], 0, 24)) := Lib.hid (by rw [HDC.out nl (Nat.le_refl _), if_neg (by omega)])
  clear hlpn
  go_wp2_with fail
  refine (cdec_c Ap mp cp xp (nl : Int) _ _ _ _ (by exact RowIn.row (lo := w1.heap.size + 1) (hi := w2.heap.size) (by repeat' (first | (with_reducible assumption) | (with_reducible exact Below.refl _ _) | (with_reducible refine Blk.drewN ?_ _) | (with_reducible refine RowIn.drewN ?_ _) | (with_reducible refine below_drewN ?_ _) | (with_reducible refine Blk.drew ?_) | (with_reducible refine RowIn.drew ?_) | (with_reducible refine Below.drew ?_) | (with_reducible refine Blk.new' ?_ ?_ <;> first | (with_reducible rfl) | (simp; done)) | (with_reducible refine Blk.alloc ?_ _) | (with_reducible refine RowIn.alloc ?_ _) | (with_reducible refine Below.alloc ?_ ?_ _) | (with_reducible apply Blk.set') | (with_reducible apply Blk.far') | (with_reducible refine RowIn.far' ?_ ?_ _) | (with_reducible refine Below.far' ?_ ?_ _) | rfl | omega | go_size))) hcp (by omega) (by omega) (by exact RowIn.row (lo := 0) (hi := w.heap.size) (by repeat' (first | (with_reducible assumption) | (with_reducible exact Below.refl _ _) | (with_reducible refine Blk.drewN ?_ _) | (with_reducible refine RowIn.drewN ?_ _) | (with_reducible refine below_drewN ?_ _) | (with_reducible refine Blk.drew ?_) | (with_reducible refine RowIn.drew ?_) | (with_reducible refine Below.drew ?_) | (with_reducible refine Blk.new' ?_ ?_ <;> first | (with_reducible rfl) | (simp; done)) | (with_reducible refine Blk.alloc ?_ _) | (with_reducible refine RowIn.alloc ?_ _) | (with_reducible refine Below.alloc ?_ ?_ _) | (with_reducible apply Blk.set') | (with_reducible apply Blk.far') | (with_reducible refine RowIn.far' ?_ ?_ _) | (with_reducible refine Below.far' ?_ ?_ _) | rfl | omega | go_size))) HD0.out).mono ?_
  rintro e w3 ⟨Az, mz, cz, yz, rfl, hcz, rz, HYz, b3⟩
  have lnz := rz.len
  replace rz := rz.mono (lo' := w2.heap.size + 1) (by go_size) (Nat.le_refl _)
  have s3 := b3.size
  try simp only [World.size_alloc, World.size_setCell, World.size_drew, size_drewN] at s3
  obtain ⟨zb_3, zp_3, rl_3, rt_3, rb_3, rp_3, rz_3, bb_3⟩ : Blk w3 (w1.heap.size) 24 [.slice Ab mb cb, .int .i64 ((xb.length : Nat) : Int)] ∧ Blk w3 (w2.heap.size) 24 [.slice Ap mp cp, .int .i64 ((xp.length : Nat) : Int)] ∧ RowIn .u32 w3 (0) (w.heap.size) Al nl xsl ∧ RowIn .u8 w3 (0) (w.heap.size) (some ⟨0, 0, none⟩) 64 dbTab ∧ RowIn .u8 w3 (w.heap.size + 0) (w1.heap.size) Ab mb (pack xb) ∧ RowIn .u8 w3 (w1.heap.size + 1) (w2.heap.size) Ap mp (pack xp) ∧ RowIn .u32 w3 (w2.heap.size + 1) (w3.heap.size) Az mz yz ∧ Below w.heap.size w w3 := by
    refine ⟨?_, ?_, ?_, ?_, ?_, ?_, ?_, ?_⟩
    all_goals repeat' (first | (with_reducible assumption) | (with_reducible exact Below.refl _ _) | (with_reducible refine Blk.drewN ?_ _) | (with_reducible refine RowIn.drewN ?_ _) | (with_reducible refine below_drewN ?_ _) | (with_reducible refine Blk.drew ?_) | (with_reducible refine RowIn.drew ?_) | (with_reducible refine Below.drew ?_) | (with_reducible refine Blk.new' ?_ ?_ <;> first | (with_reducible rfl) | (simp; done)) | (with_reducible refine Blk.alloc ?_ _) | (with_reducible refine RowIn.alloc ?_ _) | (with_reducible refine Below.alloc ?_ ?_ _) | (with_reducible apply Blk.set') | (with_reducible apply Blk.far') | (with_reducible refine RowIn.far' ?_ ?_ _) | (with_reducible refine Below.far' ?_ ?_ _) | (with_reducible refine Blk.after ?_ b3) | (with_reducible refine RowIn.belowS ?_ b3) | (with_reducible refine Below.after ?_ b3 ?_) | rfl | omega | go_size)
  clear zb_2 rl_2 rt_2 rb_2 rp_2 bb_2 kb_2 fb_2 lb_2 b3
  have kb_3 := zb_3.cell; have fb_3 := zb_3.frozen; have lb_3 := zb_3.lt
  have kp_3 := zp_3.cell; have fp_3 := zp_3.frozen; have lp_3 := zp_3.lt
  clear rz
  go_wp2_with fail
  have BB0 := bb_3
  have s0w := bb_3.size
  go_loopg [12] nl (fun k v wr => ∃ j : Nat, j + k = nl ∧ v = .int .i64 (j : Nat) ∧ Below w3.heap.size w3 wr)
  case atStart => exact ⟨0, by omega, rfl, Below.refl _ _⟩
  case round =>
    obtain ⟨j, hj, rfl, b20⟩ := hrel
    have s20 := b20.size
    try simp only [World.size_alloc, World.size_setCell, World.size_drew, size_drewN] at s20
    obtain ⟨zb_20, zp_20, rl_20, rt_20, rb_20, rp_20, bb_20⟩ : Blk wr (w1.heap.size) 24 [.slice Ab mb cb, .int .i64 ((xb.length : Nat) : Int)] ∧ Blk wr (w2.heap.size) 24 [.slice Ap mp cp, .int .i64 ((xp.length : Nat) : Int)] ∧ RowIn .u32 wr (0) (w.heap.size) Al nl xsl ∧ RowIn .u8 wr (0) (w.heap.size) (some ⟨0, 0, none⟩) 64 dbTab ∧ RowIn .u8 wr (w.heap.size + 0) (w1.heap.size) Ab mb (pack xb) ∧ RowIn .u8 wr (w1.heap.size + 1) (w2.heap.size) Ap mp (pack xp) ∧ Below w3.heap.size w3 wr := by
      refine ⟨?_, ?_, ?_, ?_, ?_, ?_, ?_⟩
      all_goals repeat' (first | (with_reducible assumption) | (with_reducible exact Below.refl _ _) | (with_reducible refine Blk.drewN ?_ _) | (with_reducible refine RowIn.drewN ?_ _) | (with_reducible refine below_drewN ?_ _) | (with_reducible refine Blk.drew ?_) | (with_reducible refine RowIn.drew ?_) | (with_reducible refine Below.drew ?_) | (with_reducible refine Blk.new' ?_ ?_ <;> first | (with_reducible rfl) | (simp; done)) | (with_reducible refine Blk.alloc ?_ _) | (with_reducible refine RowIn.alloc ?_ _) | (with_reducible refine Below.alloc ?_ ?_ _) | (with_reducible apply Blk.set') | (with_reducible apply Blk.far') | (with_reducible refine RowIn.far' ?_ ?_ _) | (with_reducible refine Below.far' ?_ ?_ _) | (with_reducible refine Blk.after ?_ b20) | (with_reducible refine RowIn.belowS ?_ b20) | (with_reducible refine Below.after ?_ b20 ?_) | rfl | omega | go_size)
    have kb_20 := zb_20.cell; have fb_20 := zb_20.frozen; have lb_20 := zb_20.lt
    have kp_20 := zp_20.cell; have fp_20 := zp_20.frozen; have lp_20 := zp_20.lt
    by_cases hlt : j < nl
    · obtain ⟨bl, ol, rfl, hbl, hcell⟩ := hal.at (by omega)
      clear hcell
      have hlt1 : (j : Int) < (nl : Int) := by omega
      have hjc : (j : Int) ≤ (cl : Int) := by omega
      have hpl := codeP_le start_ok hxl j
      rw [show (codeP Cad.Code.start xsl j).length = lenP Cad.Code.start xsl j from rfl] at hpl
      obtain ⟨hpl1, hpl2⟩ := hpl
      obtain ⟨Q, HQ⟩ : ∃ Q, Hid (Q = lenP Cad.Code.start xsl j) := ⟨_, Lib.hid rfl⟩
      rw [← HQ.out] at hpl1 hpl2
      go_wp2_with fail
      have rq : RowIn .u32 wr 0 w.heap.size (some ⟨bl, ol, none⟩) j (xsl.take j) := part_row rl_20 (by omega)
      refine (cenc_ok _ j _ (xsl.take j) _ (by first | exact rq.row | exact (rq.drew).row) (within_take hxl j) (by omega)).mono ?_
      rintro e w21 ⟨Ac, mc, cc, xc, rfl, hcc, rc, HXc, b21⟩
      have Lc : xc.length ≤ Q ∧ Q ≤ xc.length := by rw [HXc.out]; rw [codeP_row _ _ (Nat.le_refl _), HQ.out]; exact ⟨Nat.le_refl _, Nat.le_refl _⟩
      obtain ⟨Lc1, Lc2⟩ := Lc
      replace rc := rc.mono (lo' := wr.heap.size + 0) (by go_size) (Nat.le_refl _)
      have s21 := b21.size
      try simp only [World.size_alloc, World.size_setCell, World.size_drew, size_drewN] at s21
      obtain ⟨zb_21, zp_21, rl_21, rt_21, rb_21, rp_21, rc_21, bb_21⟩ : Blk w21 (w1.heap.size) 24 [.slice Ab mb cb, .int .i64 ((xb.length : Nat) : Int)] ∧ Blk w21 (w2.heap.size) 24 [.slice Ap mp cp, .int .i64 ((xp.length : Nat) : Int)] ∧ RowIn .u32 w21 (0) (w.heap.size) (some ⟨bl, ol, none⟩) nl xsl ∧ RowIn .u8 w21 (0) (w.heap.size) (some ⟨0, 0, none⟩) 64 dbTab ∧ RowIn .u8 w21 (w.heap.size + 0) (w1.heap.size) Ab mb (pack xb) ∧ RowIn .u8 w21 (w1.heap.size + 1) (w2.heap.size) Ap mp (pack xp) ∧ RowIn .u8 w21 (wr.heap.size + 0) (w21.heap.size) Ac mc (pack xc) ∧ Below w3.heap.size w3 w21 := by
        refine ⟨?_, ?_, ?_, ?_, ?_, ?_, ?_, ?_⟩
        all_goals repeat' (first | (with_reducible assumption) | (with_reducible exact Below.refl _ _) | (with_reducible refine Blk.drewN ?_ _) | (with_reducible refine RowIn.drewN ?_ _) | (with_reducible refine below_drewN ?_ _) | (with_reducible refine Blk.drew ?_) | (with_reducible refine RowIn.drew ?_) | (with_reducible refine Below.drew ?_) | (with_reducible refine Blk.new' ?_ ?_ <;> first | (with_reducible rfl) | (simp; done)) | (with_reducible refine Blk.alloc ?_ _) | (with_reducible refine RowIn.alloc ?_ _) | (with_reducible refine Below.alloc ?_ ?_ _) | (with_reducible apply Blk.set') | (with_reducible apply Blk.far') | (with_reducible refine RowIn.far' ?_ ?_ _) | (with_reducible refine Below.far' ?_ ?_ _) | (with_reducible refine Blk.after ?_ b21) | (with_reducible refine RowIn.belowS ?_ b21) | (with_reducible refine Below.after ?_ b21 ?_) | rfl | omega | go_size)
      clear zb_20 zp_20 rl_20 rt_20 rb_20 rp_20 bb_20 kb_20 fb_20 lb_20 kp_20 fp_20 lp_20 b21
      have kb_21 := zb_21.cell; have fb_21 := zb_21.frozen; have lb_21 := zb_21.lt
      have kp_21 := zp_21.cell; have fp_21 := zp_21.frozen; have lp_21 := zp_21.lt
      clear rc
      go_wp2_with fail
      by_cases h5 : Q ≤ p
      · have HDj : Hid (decR xp (j : Int) = (pre xsl j, (Q : Int), 0)) := Lib.hid (by rw [HDC.out j (by omega), ← HQ.out, if_pos h5])
        refine (cdec_c Ap mp cp xp (j : Int) _ _ _ _ (by exact RowIn.row (lo := w1.heap.size + 1) (hi := w2.heap.size) (by repeat' (first | (with_reducible assumption) | (with_reducible exact Below.refl _ _) | (with_reducible refine Blk.drewN ?_ _) | (with_reducible refine RowIn.drewN ?_ _) | (with_reducible refine below_drewN ?_ _) | (with_reducible refine Blk.drew ?_) | (with_reducible refine RowIn.drew ?_) | (with_reducible refine Below.drew ?_) | (with_reducible refine Blk.new' ?_ ?_ <;> first | (with_reducible rfl) | (simp; done)) | (with_reducible refine Blk.alloc ?_ _) | (with_reducible refine RowIn.alloc ?_ _) | (with_reducible refine Below.alloc ?_ ?_ _) | (with_reducible apply Blk.set') | (with_reducible apply Blk.far') | (with_reducible refine RowIn.far' ?_ ?_ _) | (with_reducible refine Below.far' ?_ ?_ _) | rfl | omega | go_size))) hcp (by omega) (by omega) (by exact RowIn.row (lo := 0) (hi := w.heap.size) (by repeat' (first | (with_reducible assumption) | (with_reducible exact Below.refl _ _) | (with_reducible refine Blk.drewN ?_ _) | (with_reducible refine RowIn.drewN ?_ _) | (with_reducible refine below_drewN ?_ _) | (with_reducible refine Blk.drew ?_) | (with_reducible refine RowIn.drew ?_) | (with_reducible refine Below.drew ?_) | (with_reducible refine Blk.new' ?_ ?_ <;> first | (with_reducible rfl) | (simp; done)) | (with_reducible refine Blk.alloc ?_ _) | (with_reducible refine RowIn.alloc ?_ _) | (with_reducible refine Below.alloc ?_ ?_ _) | (with_reducible apply Blk.set') | (with_reducible apply Blk.far') | (with_reducible refine RowIn.far' ?_ ?_ _) | (with_reducible refine Below.far' ?_ ?_ _) | rfl | omega | go_size))) HDj.out).mono ?_
        rintro e w22 ⟨Am, mm, cm, ym, rfl, hcm, rm, HYm, b22⟩
        have lnm := rm.len
        replace rm := rm.mono (lo' := w21.heap.size + 1) (by go_size) (Nat.le_refl _)
        have s22 := b22.size
        try simp only [World.size_alloc, World.size_setCell, World.size_drew, size_drewN] at s22
        obtain ⟨zb_22, zp_22, zc_22, rl_22, rt_22, rb_22, rp_22, rc_22, rm_22, bb_22⟩ : Blk w22 (w1.heap.size) 24 [.slice Ab mb cb, .int .i64 ((xb.length : Nat) : Int)] ∧ Blk w22 (w2.heap.size) 24 [.slice Ap mp cp, .int .i64 ((xp.length : Nat) : Int)] ∧ Blk w22 (w21.heap.size) 24 [.slice Ac mc cc, .int .i64 ((xc.length : Nat) : Int)] ∧ RowIn .u32 w22 (0) (w.heap.size) (some ⟨bl, ol, none⟩) nl xsl ∧ RowIn .u8 w22 (0) (w.heap.size) (some ⟨0, 0, none⟩) 64 dbTab ∧ RowIn .u8 w22 (w.heap.size + 0) (w1.heap.size) Ab mb (pack xb) ∧ RowIn .u8 w22 (w1.heap.size + 1) (w2.heap.size) Ap mp (pack xp) ∧ RowIn .u8 w22 (wr.heap.size + 0) (w21.heap.size) Ac mc (pack xc) ∧ RowIn .u32 w22 (w21.heap.size + 1) (w22.heap.size) Am mm ym ∧ Below w3.heap.size w3 w22 := by
          refine ⟨?_, ?_, ?_, ?_, ?_, ?_, ?_, ?_, ?_, ?_⟩
          all_goals repeat' (first | (with_reducible assumption) | (with_reducible exact Below.refl _ _) | (with_reducible refine Blk.drewN ?_ _) | (with_reducible refine RowIn.drewN ?_ _) | (with_reducible refine below_drewN ?_ _) | (with_reducible refine Blk.drew ?_) | (with_reducible refine RowIn.drew ?_) | (with_reducible refine Below.drew ?_) | (with_reducible refine Blk.new' ?_ ?_ <;> first | (with_reducible rfl) | (simp; done)) | (with_reducible refine Blk.alloc ?_ _) | (with_reducible refine RowIn.alloc ?_ _) | (with_reducible refine Below.alloc ?_ ?_ _) | (with_reducible apply Blk.set') | (with_reducible apply Blk.far') | (with_reducible refine RowIn.far' ?_ ?_ _) | (with_reducible refine Below.far' ?_ ?_ _) | (with_reducible refine Blk.after ?_ b22) | (with_reducible refine RowIn.belowS ?_ b22) | (with_reducible refine Below.after ?_ b22 ?_) | rfl | omega | go_size)
        clear zb_21 zp_21 rl_21 rt_21 rb_21 rp_21 rc_21 bb_21 kb_21 fb_21 lb_21 kp_21 fp_21 lp_21 b22
        have kb_22 := zb_22.cell; have fb_22 := zb_22.frozen; have lb_22 := zb_22.lt
        have kp_22 := zp_22.cell; have fp_22 := zp_22.frozen; have lp_22 := zp_22.lt
        have kc_22 := zc_22.cell; have fc_22 := zc_22.frozen; have lc_22 := zc_22.lt
        clear rm
        have tq : ((Q : Int) != ((xc.length : Nat) : Int)) = false := by rw [bne_eq_false_iff_eq]; omega
        have tp : decide (((xc.length : Nat) : Int) ≤ (p : Int)) = true := decide_eq_true (by omega)
        have HE : Hid (ym = xsl.take j) := Lib.hid (by rw [HYm.out, ← pre_row xsl (Nat.le_refl j)]; exact ints_pre (within_take hxl j) (by rw [List.length_take, HLl.out]; omega))
        go_wp2_with fail
        have rq2 : RowIn .u32 w22 0 w.heap.size (some ⟨bl, ol, none⟩) j (xsl.take j) := part_row rl_22 (by omega)
        have hmj : mm = j := by rw [← lnm, HE.out, List.length_take, HLl.out]; omega
        refine (r9same_eq Am _ mm cm j _ ym (xsl.take j) _ (by exact RowIn.row (lo := w21.heap.size + 1) (hi := w22.heap.size) (by repeat' (first | (with_reducible assumption) | (with_reducible exact Below.refl _ _) | (with_reducible refine Blk.drewN ?_ _) | (with_reducible refine RowIn.drewN ?_ _) | (with_reducible refine below_drewN ?_ _) | (with_reducible refine Blk.drew ?_) | (with_reducible refine RowIn.drew ?_) | (with_reducible refine Below.drew ?_) | (with_reducible refine Blk.new' ?_ ?_ <;> first | (with_reducible rfl) | (simp; done)) | (with_reducible refine Blk.alloc ?_ _) | (with_reducible refine RowIn.alloc ?_ _) | (with_reducible refine Below.alloc ?_ ?_ _) | (with_reducible apply Blk.set') | (with_reducible apply Blk.far') | (with_reducible refine RowIn.far' ?_ ?_ _) | (with_reducible refine Below.far' ?_ ?_ _) | rfl | omega | go_size))) (by first | exact rq2.row | exact (rq2.drew).row | exact (rq2.alloc _).row) (by omega) HE.out).mono ?_
        rintro e w23 ⟨rfl, b23⟩
        have s23 := b23.size
        try simp only [World.size_alloc, World.size_setCell, World.size_drew, size_drewN] at s23
        obtain ⟨zb_23, zp_23, zc_23, rl_23, rt_23, rb_23, rp_23, rc_23, rm_23, bb_23⟩ : Blk w23 (w1.heap.size) 24 [.slice Ab mb cb, .int .i64 ((xb.length : Nat) : Int)] ∧ Blk w23 (w2.heap.size) 24 [.slice Ap mp cp, .int .i64 ((xp.length : Nat) : Int)] ∧ Blk w23 (w21.heap.size) 24 [.slice Ac mc cc, .int .i64 ((xc.length : Nat) : Int)] ∧ RowIn .u32 w23 (0) (w.heap.size) (some ⟨bl, ol, none⟩) nl xsl ∧ RowIn .u8 w23 (0) (w.heap.size) (some ⟨0, 0, none⟩) 64 dbTab ∧ RowIn .u8 w23 (w.heap.size + 0) (w1.heap.size) Ab mb (pack xb) ∧ RowIn .u8 w23 (w1.heap.size + 1) (w2.heap.size) Ap mp (pack xp) ∧ RowIn .u8 w23 (wr.heap.size + 0) (w21.heap.size) Ac mc (pack xc) ∧ RowIn .u32 w23 (w21.heap.size + 1) (w22.heap.size) Am mm ym ∧ Below w3.heap.size w3 w23 := by
          refine ⟨?_, ?_, ?_, ?_, ?_, ?_, ?_, ?_, ?_, ?_⟩
          all_goals repeat' (first | (with_reducible assumption) | (with_reducible exact Below.refl _ _) | (with_reducible refine Blk.drewN ?_ _) | (with_reducible refine RowIn.drewN ?_ _) | (with_reducible refine below_drewN ?_ _) | (with_reducible refine Blk.drew ?_) | (with_reducible refine RowIn.drew ?_) | (with_reducible refine Below.drew ?_) | (with_reducible refine Blk.new' ?_ ?_ <;> first | (with_reducible rfl) | (simp; done)) | (with_reducible refine Blk.alloc ?_ _) | (with_reducible refine RowIn.alloc ?_ _) | (with_reducible refine Below.alloc ?_ ?_ _) | (with_reducible apply Blk.set') | (with_reducible apply Blk.far') | (with_reducible refine RowIn.far' ?_ ?_ _) | (with_reducible refine Below.far' ?_ ?_ _) | (with_reducible refine Blk.after ?_ b23) | (with_reducible refine RowIn.belowS ?_ b23) | (with_reducible refine Below.after ?_ b23 ?_) | rfl | omega | go_size)
        clear zb_22 zp_22 zc_22 rl_22 rt_22 rb_22 rp_22 rc_22 rm_22 bb_22 kb_22 fb_22 lb_22 kp_22 fp_22 lp_22 kc_22 fc_22 lc_22 b23
        have kb_23 := zb_23.cell; have fb_23 := zb_23.frozen; have lb_23 := zb_23.lt
        have kp_23 := zp_23.cell; have fp_23 := zp_23.frozen; have lp_23 := zp_23.lt
        have kc_23 := zc_23.cell; have fc_23 := zc_23.frozen; have lc_23 := zc_23.lt
        go_wp2
        go_roundg (nl - (j + 1))
        case measure => omega
        case rel => exact ⟨j + 1, by omega, by go_num, bb_23⟩
      · have HDj : Hid (decR xp (j : Int) = ([], 0, 24)) := Lib.hid (by rw [HDC.out j (by omega), ← HQ.out, if_neg h5])
        refine (cdec_c Ap mp cp xp (j : Int) _ _ _ _ (by exact RowIn.row (lo := w1.heap.size + 1) (hi := w2.heap.size) (by repeat' (first | (with_reducible assumption) | (with_reducible exact Below.refl _ _) | (with_reducible refine Blk.drewN ?_ _) | (with_reducible refine RowIn.drewN ?_ _) | (with_reducible refine below_drewN ?_ _) | (with_reducible refine Blk.drew ?_) | (with_reducible refine RowIn.drew ?_) | (with_reducible refine Below.drew ?_) | (with_reducible refine Blk.new' ?_ ?_ <;> first | (with_reducible rfl) | (simp; done)) | (with_reducible refine Blk.alloc ?_ _) | (with_reducible refine RowIn.alloc ?_ _) | (with_reducible refine Below.alloc ?_ ?_ _) | (with_reducible apply Blk.set') | (with_reducible apply Blk.far') | (with_reducible refine RowIn.far' ?_ ?_ _) | (with_reducible refine Below.far' ?_ ?_ _) | rfl | omega | go_size))) hcp (by omega) (by omega) (by exact RowIn.row (lo := 0) (hi := w.heap.size) (by repeat' (first | (with_reducible assumption) | (with_reducible exact Below.refl _ _) | (with_reducible refine Blk.drewN ?_ _) | (with_reducible refine RowIn.drewN ?_ _) | (with_reducible refine below_drewN ?_ _) | (with_reducible refine Blk.drew ?_) | (with_reducible refine RowIn.drew ?_) | (with_reducible refine Below.drew ?_) | (with_reducible refine Blk.new' ?_ ?_ <;> first | (with_reducible rfl) | (simp; done)) | (with_reducible refine Blk.alloc ?_ _) | (with_reducible refine RowIn.alloc ?_ _) | (with_reducible refine Below.alloc ?_ ?_ _) | (with_reducible apply Blk.set') | (with_reducible apply Blk.far') | (with_reducible refine RowIn.far' ?_ ?_ _) | (with_reducible refine Below.far' ?_ ?_ _) | rfl | omega | go_size))) HDj.out).mono ?_
        rintro e w22 ⟨Am, mm, cm, ym, rfl, hcm, rm, HYm, b22⟩
        have lnm := rm.len
        replace rm := rm.mono (lo' := w21.heap.size + 1) (by go_size) (Nat.le_refl _)
        have s22 := b22.size
        try simp only [World.size_alloc, World.size_setCell, World.size_drew, size_drewN] at s22
        obtain ⟨zb_22, zp_22, zc_22, rl_22, rt_22, rb_22, rp_22, rc_22, rm_22, bb_22⟩ : Blk w22 (w1.heap.size) 24 [.slice Ab mb cb, .int .i64 ((xb.length : Nat) : Int)] ∧ Blk w22 (w2.heap.size) 24 [.slice Ap mp cp, .int .i64 ((xp.length : Nat) : Int)] ∧ Blk w22 (w21.heap.size) 24 [.slice Ac mc cc, .int .i64 ((xc.length : Nat) : Int)] ∧ RowIn .u32 w22 (0) (w.heap.size) (some ⟨bl, ol, none⟩) nl xsl ∧ RowIn .u8 w22 (0) (w.heap.size) (some ⟨0, 0, none⟩) 64 dbTab ∧ RowIn .u8 w22 (w.heap.size + 0) (w1.heap.size) Ab mb (pack xb) ∧ RowIn .u8 w22 (w1.heap.size + 1) (w2.heap.size) Ap mp (pack xp) ∧ RowIn .u8 w22 (wr.heap.size + 0) (w21.heap.size) Ac mc (pack xc) ∧ RowIn .u32 w22 (w21.heap.size + 1) (w22.heap.size) Am mm ym ∧ Below w3.heap.size w3 w22 := by
          refine ⟨?_, ?_, ?_, ?_, ?_, ?_, ?_, ?_, ?_, ?_⟩
          all_goals repeat' (first | (with_reducible assumption) | (with_reducible exact Below.refl _ _) | (with_reducible refine Blk.drewN ?_ _) | (with_reducible refine RowIn.drewN ?_ _) | (with_reducible refine below_drewN ?_ _) | (with_reducible refine Blk.drew ?_) | (with_reducible refine RowIn.drew ?_) | (with_reducible refine Below.drew ?_) | (with_reducible refine Blk.new' ?_ ?_ <;> first | (with_reducible rfl) | (simp; done)) | (with_reducible refine Blk.alloc ?_ _) | (with_reducible refine RowIn.alloc ?_ _) | (with_reducible refine Below.alloc ?_ ?_ _) | (with_reducible apply Blk.set') | (with_reducible apply Blk.far') | (with_reducible refine RowIn.far' ?_ ?_ _) | (with_reducible refine Below.far' ?_ ?_ _) | (with_reducible refine Blk.after ?_ b22) | (with_reducible refine RowIn.belowS ?_ b22) | (with_reducible refine Below.after ?_ b22 ?_) | rfl | omega | go_size)
        clear zb_21 zp_21 rl_21 rt_21 rb_21 rp_21 rc_21 bb_21 kb_21 fb_21 lb_21 kp_21 fp_21 lp_21 b22
        have kb_22 := zb_22.cell; have fb_22 := zb_22.frozen; have lb_22 := zb_22.lt
        have kp_22 := zp_22.cell; have fp_22 := zp_22.frozen; have lp_22 := zp_22.lt
        have kc_22 := zc_22.cell; have fc_22 := zc_22.frozen; have lc_22 := zc_22.lt
        clear rm
        have tp : decide (((xc.length : Nat) : Int) ≤ (p : Int)) = false := decide_eq_false (by omega)
        go_wp2
        go_roundg (nl - (j + 1))
        case measure => omega
        case rel => exact ⟨j + 1, by omega, by go_num, bb_22⟩
    · obtain rfl : j = nl := by omega
      have bb0_20 := Below.after BB0 bb_20 s0w
      clear bb_20
      have bb_20 := bb0_20
      go_wp2_with fail
      refine (alive09 _ (by exact RowIn.row (lo := 0) (hi := w.heap.size) (by repeat' (first | (with_reducible assumption) | (with_reducible exact Below.refl _ _) | (with_reducible refine Blk.drewN ?_ _) | (with_reducible refine RowIn.drewN ?_ _) | (with_reducible refine below_drewN ?_ _) | (with_reducible refine Blk.drew ?_) | (with_reducible refine RowIn.drew ?_) | (with_reducible refine Below.drew ?_) | (with_reducible refine Blk.new' ?_ ?_ <;> first | (with_reducible rfl) | (simp; done)) | (with_reducible refine Blk.alloc ?_ _) | (with_reducible refine RowIn.alloc ?_ _) | (with_reducible refine Below.alloc ?_ ?_ _) | (with_reducible apply Blk.set') | (with_reducible apply Blk.far') | (with_reducible refine RowIn.far' ?_ ?_ _) | (with_reducible refine Below.far' ?_ ?_ _) | rfl | omega | go_size)))).mono ?_
      rintro e w21 ⟨rfl, b21⟩
      have s21 := b21.size
      try simp only [World.size_alloc, World.size_setCell, World.size_drew, size_drewN] at s21
      have bb_21 : Below w.heap.size w w21 := by
        repeat' (first | (with_reducible assumption) | (with_reducible exact Below.refl _ _) | (with_reducible refine Blk.drewN ?_ _) | (with_reducible refine RowIn.drewN ?_ _) | (with_reducible refine below_drewN ?_ _) | (with_reducible refine Blk.drew ?_) | (with_reducible refine RowIn.drew ?_) | (with_reducible refine Below.drew ?_) | (with_reducible refine Blk.new' ?_ ?_ <;> first | (with_reducible rfl) | (simp; done)) | (with_reducible refine Blk.alloc ?_ _) | (with_reducible refine RowIn.alloc ?_ _) | (with_reducible refine Below.alloc ?_ ?_ _) | (with_reducible apply Blk.set') | (with_reducible apply Blk.far') | (with_reducible refine RowIn.far' ?_ ?_ _) | (with_reducible refine Below.far' ?_ ?_ _) | (with_reducible refine Blk.after ?_ b21) | (with_reducible refine RowIn.belowS ?_ b21) | (with_reducible refine Below.after ?_ b21 ?_) | rfl | omega | go_size)
      clear zb_20 zp_20 rl_20 rt_20 rb_20 rp_20 bb_20 kb_20 fb_20 lb_20 kp_20 fp_20 lp_20 b21
      go_wp2
      go_ret
      refine ⟨rfl, ?_⟩
      repeat' (first | (with_reducible assumption) | (with_reducible exact Below.refl _ _) | (with_reducible refine Blk.drewN ?_ _) | (with_reducible refine RowIn.drewN ?_ _) | (with_reducible refine below_drewN ?_ _) | (with_reducible refine Blk.drew ?_) | (with_reducible refine RowIn.drew ?_) | (with_reducible refine Below.drew ?_) | (with_reducible refine Blk.new' ?_ ?_ <;> first | (with_reducible rfl) | (simp; done)) | (with_reducible refine Blk.alloc ?_ _) | (with_reducible refine RowIn.alloc ?_ _) | (with_reducible refine Below.alloc ?_ ?_ _) | (with_reducible apply Blk.set') | (with_reducible apply Blk.far') | (with_reducible refine RowIn.far' ?_ ?_ _) | (with_reducible refine Below.far' ?_ ?_ _) | rfl | omega | go_size)


end Go.Proofs.YtppilidcjlnmoaaDoor
