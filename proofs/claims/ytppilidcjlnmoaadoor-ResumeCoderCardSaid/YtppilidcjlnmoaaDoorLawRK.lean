/-
  Bytes of bits, read back; feeding the code of numbers, plainly.
-/
import Derived.Test.YtppilidcjlnmoaaDoorCod
import Derived.Test.YtppilidcjlnmoaaDoorSt
import Derived.Test.YtppilidcjlnmoaaDoorLawRZ
namespace Cad.Code
open Go Cad Cad.Bit
set_option linter.unusedVariables false

theorem low_pad (l : List Bool) {m : Nat} (h : l.length ≤ m) : ∃ t, lowBits (bval l) m = l ++ t ∧ t.length = m - l.length := by
  obtain ⟨k, rfl⟩ : ∃ k, m = l.length + k := ⟨m - l.length, by omega⟩
  rw [lowBits_add, lowBits_bval]
  exact ⟨_, rfl, by rw [lowBits_len]; omega⟩
theorem unpack_bytes (bs : List Bool) : ∀ j, 8 * j ≤ bs.length → unpack ((List.range j).map fun i => ((byteAt bs i : Nat) : Int)) = bs.take (8 * j) := by
  intro j
  induction j with
  | zero => intro _; rfl
  | succ j ih =>
    intro h
    rw [List.range_succ, List.map_append, Cad.Bit.unpack_append, ih (by omega), Nat.mul_succ, List.take_add]
    congr 1
    show unpack [((byteAt bs j : Nat) : Int)] = _
    unfold unpack
    rw [List.flatMap_cons, List.flatMap_nil, List.append_nil, Int.toNat_natCast]
    unfold byteAt
    have hl : ((bs.drop (8 * j)).take 8).length = 8 := by rw [List.length_take, List.length_drop]; omega
    have h2 := lowBits_bval ((bs.drop (8 * j)).take 8)
    rw [hl] at h2; exact h2
/-- The bits of the bytes of bits are these bits, and less than a byte behind them. -/
theorem unpack_pack (bs : List Bool) : ∃ t, unpack (pack bs) = bs ++ t ∧ t.length = 8 * bytesFor bs.length - bs.length ∧ t.length < 8 := by
  have hb : bytesFor bs.length = (bs.length + 7) / 8 := rfl
  by_cases h : bs.length % 8 = 0
  · refine ⟨[], ?_, by rw [hb]; simp; omega, by simp⟩
    have h2 := unpack_bytes bs (bs.length / 8) (by omega)
    rw [List.append_nil]
    have e : pack bs = (List.range (bs.length / 8)).map fun i => ((byteAt bs i : Nat) : Int) := by
      unfold pack; rw [show bytesFor bs.length = bs.length / 8 by rw [hb]; omega]
    rw [e, h2, List.take_of_length_le (by omega)]
  · have h2 := unpack_bytes bs (bs.length / 8) (by omega)
    obtain ⟨t, ht, htl⟩ := low_pad ((bs.drop (8 * (bs.length / 8))).take 8) (m := 8) (by rw [List.length_take]; omega)
    have hl : ((bs.drop (8 * (bs.length / 8))).take 8).length = bs.length % 8 := by rw [List.length_take, List.length_drop]; omega
    rw [hl] at htl
    refine ⟨t, ?_, by rw [hb, htl]; omega, by rw [htl]; omega⟩
    have e : pack bs = ((List.range (bs.length / 8)).map fun i => ((byteAt bs i : Nat) : Int)) ++ [((byteAt bs (bs.length / 8) : Nat) : Int)] := by
      unfold pack; rw [show bytesFor bs.length = bs.length / 8 + 1 by rw [hb]; omega, List.range_succ, List.map_append]; rfl
    rw [e, Cad.Bit.unpack_append, h2]
    have e2 : unpack [((byteAt bs (bs.length / 8) : Nat) : Int)] = (bs.drop (8 * (bs.length / 8))).take 8 ++ t := by
      unfold unpack
      rw [List.flatMap_cons, List.flatMap_nil, List.append_nil, Int.toNat_natCast]
      unfold byteAt; exact ht
    rw [e2, ← List.append_assoc]
    congr 1
    rw [List.take_of_length_le (l := bs.drop _) (by rw [List.length_drop]; omega), List.take_append_drop]
theorem feed_code (d : Dual) (vs : List Nat) (hs : Small vs) (t : List Bool) : feed vs.length d (codeL d vs ++ t) = if 8 ≤ t.length then .err 38 else .ok vs 0 (afterL d vs) t := by
  induction vs generalizing d with
  | nil =>
    show feed 0 d t = _
    rw [feed]; rfl
  | cons v r ih =>
    have hv := hs v (List.mem_cons_self ..)
    rw [List.length_cons, codeL, List.append_assoc, feed, readD_code hv]
    dsimp only
    rw [List.drop_left' (codeD_len d v), ih _ (fun x hx => hs x (List.mem_cons_of_mem _ hx))]
    by_cases h : 8 ≤ t.length
    · rw [if_pos h, if_pos h]; rfl
    · rw [if_neg h, if_neg h]; rfl
end Cad.Code
/-
  The first ones of a row.
-/
namespace Go.Proofs.YtppilidcjlnmoaaDoor
open Go.RowKit Cad Cad.Bit
theorem part_row2 {k : IntKind} {w : World} {lo hi : Nat} {A : Option Addr} {n : Nat} {xs : List Int} (h : RowIn k w lo hi A n xs) {j : Nat} (hj : j ≤ n) : RowIn k w lo hi A j (xs.take j) := by
  refine ⟨by rw [List.length_take, h.len]; omega, fun hp => ?_⟩
  obtain ⟨b, off, e, h1, h2, hc⟩ := h.2 (by omega)
  exact ⟨b, off, e, h1, h2, fun i hi => by rw [hc i (by omega), nth_take hi]⟩
theorem within_take2 {lo hi : Int} {xs : List Int} (h : Within lo hi xs) (j : Nat) : Within lo hi (xs.take j) := fun x hx => h x (List.mem_of_mem_take hx)
end Go.Proofs.YtppilidcjlnmoaaDoor

/-
  The walk of ResumeCoder.
-/
namespace Go.Proofs.YtppilidcjlnmoaaDoor
open Go.RowKit Cad Cad.Bit Cad.Code
set_option linter.unusedVariables false
set_option linter.unusedSimpArgs false


set_option maxRecDepth 100000 in
set_option maxHeartbeats 8000000 in
theorem lawResumeCoder (w : World) (ht : Tab w) (Al : Option Addr) (nl cl : Nat) (xsl : List Int) (hAl : RowC .u32 w Al nl cl xsl) (hxl : Within 0 4294967295 xsl) (n : Int) (hn : -9223372036854775808 ≤ n ∧ n ≤ 9223372036854775807) :
    Calls Tryd.prog 16 #[.slice Al nl cl, .int .i64 n] w fun e w' => e = .returned (.bool true) ∧ Below w.heap.size w w' := by
  have hal := hAl.row
  have hcl := hAl.2
  have hril := hal.rowIn
  have HLl := Lib.hid hal.len
  have hti : RowIn .u8 w 0 w.heap.size (some ⟨0, 0, none⟩) 64 dbTab := ht.rowIn
  by_cases h0 : 100 < nl
  · have t0 : decide ((100 : Int) < (nl : Int)) = true := decide_eq_true (by omega)
    go_enter Tryd.func16, Tryd.ntmps16
    go_wp2_with fail
    refine (alive10 _ (by exact RowIn.row (lo := 0) (hi := w.heap.size) (by repeat' (first | (with_reducible assumption) | (with_reducible exact Below.refl _ _) | (with_reducible refine Blk.drewN ?_ _) | (with_reducible refine RowIn.drewN ?_ _) | (with_reducible refine below_drewN ?_ _) | (with_reducible refine Blk.drew ?_) | (with_reducible refine RowIn.drew ?_) | (with_reducible refine Below.drew ?_) | (with_reducible refine Blk.new' ?_ ?_ <;> first | (with_reducible rfl) | (simp; done)) | (with_reducible refine Blk.alloc ?_ _) | (with_reducible refine RowIn.alloc ?_ _) | (with_reducible refine Below.alloc ?_ ?_ _) | (with_reducible apply Blk.set') | (with_reducible apply Blk.far') | (with_reducible refine RowIn.far' ?_ ?_ _) | (with_reducible refine Below.far' ?_ ?_ _) | rfl | omega | go_size)))).mono ?_
    rintro e w1 ⟨rfl, b1⟩
    have s1 := b1.size
    try simp only [World.size_alloc, World.size_setCell, World.size_drew, size_drewN] at s1
    have bb_1 : Below w.heap.size w w1 := by
      repeat' (first | (with_reducible assumption) | (with_reducible exact Below.refl _ _) | (with_reducible refine Blk.drewN ?_ _) | (with_reducible refine RowIn.drewN ?_ _) | (with_reducible refine below_drewN ?_ _) | (with_reducible refine Blk.drew ?_) | (with_reducible refine RowIn.drew ?_) | (with_reducible refine Below.drew ?_) | (with_reducible refine Blk.new' ?_ ?_ <;> first | (with_reducible rfl) | (simp; done)) | (with_reducible refine Blk.alloc ?_ _) | (with_reducible refine RowIn.alloc ?_ _) | (with_reducible refine Below.alloc ?_ ?_ _) | (with_reducible apply Blk.set') | (with_reducible apply Blk.far') | (with_reducible refine RowIn.far' ?_ ?_ _) | (with_reducible refine Below.far' ?_ ?_ _) | (with_reducible refine Blk.after ?_ b1) | (with_reducible refine RowIn.belowS ?_ b1) | (with_reducible refine Below.after ?_ b1 ?_) | rfl | omega | go_size)
    clear b1
    go_wp2
    go_ret
    refine ⟨rfl, ?_⟩
    repeat' (first | (with_reducible assumption) | (with_reducible exact Below.refl _ _) | (with_reducible refine Blk.drewN ?_ _) | (with_reducible refine RowIn.drewN ?_ _) | (with_reducible refine below_drewN ?_ _) | (with_reducible refine Blk.drew ?_) | (with_reducible refine RowIn.drew ?_) | (with_reducible refine Below.drew ?_) | (with_reducible refine Blk.new' ?_ ?_ <;> first | (with_reducible rfl) | (simp; done)) | (with_reducible refine Blk.alloc ?_ _) | (with_reducible refine RowIn.alloc ?_ _) | (with_reducible refine Below.alloc ?_ ?_ _) | (with_reducible apply Blk.set') | (with_reducible apply Blk.far') | (with_reducible refine RowIn.far' ?_ ?_ _) | (with_reducible refine Below.far' ?_ ?_ _) | rfl | omega | go_size)
  have t0 : decide ((100 : Int) < (nl : Int)) = false := decide_eq_false (by omega)
  by_cases h1 : n < 0
  · go_enter Tryd.func16, Tryd.ntmps16
    go_wp2_with fail
    refine (alive10 _ (by exact RowIn.row (lo := 0) (hi := w.heap.size) (by repeat' (first | (with_reducible assumption) | (with_reducible exact Below.refl _ _) | (with_reducible refine Blk.drewN ?_ _) | (with_reducible refine RowIn.drewN ?_ _) | (with_reducible refine below_drewN ?_ _) | (with_reducible refine Blk.drew ?_) | (with_reducible refine RowIn.drew ?_) | (with_reducible refine Below.drew ?_) | (with_reducible refine Blk.new' ?_ ?_ <;> first | (with_reducible rfl) | (simp; done)) | (with_reducible refine Blk.alloc ?_ _) | (with_reducible refine RowIn.alloc ?_ _) | (with_reducible refine Below.alloc ?_ ?_ _) | (with_reducible apply Blk.set') | (with_reducible apply Blk.far') | (with_reducible refine RowIn.far' ?_ ?_ _) | (with_reducible refine Below.far' ?_ ?_ _) | rfl | omega | go_size)))).mono ?_
    rintro e w1 ⟨rfl, b1⟩
    have s1 := b1.size
    try simp only [World.size_alloc, World.size_setCell, World.size_drew, size_drewN] at s1
    have bb_1 : Below w.heap.size w w1 := by
      repeat' (first | (with_reducible assumption) | (with_reducible exact Below.refl _ _) | (with_reducible refine Blk.drewN ?_ _) | (with_reducible refine RowIn.drewN ?_ _) | (with_reducible refine below_drewN ?_ _) | (with_reducible refine Blk.drew ?_) | (with_reducible refine RowIn.drew ?_) | (with_reducible refine Below.drew ?_) | (with_reducible refine Blk.new' ?_ ?_ <;> first | (with_reducible rfl) | (simp; done)) | (with_reducible refine Blk.alloc ?_ _) | (with_reducible refine RowIn.alloc ?_ _) | (with_reducible refine Below.alloc ?_ ?_ _) | (with_reducible apply Blk.set') | (with_reducible apply Blk.far') | (with_reducible refine RowIn.far' ?_ ?_ _) | (with_reducible refine Below.far' ?_ ?_ _) | (with_reducible refine Blk.after ?_ b1) | (with_reducible refine RowIn.belowS ?_ b1) | (with_reducible refine Below.after ?_ b1 ?_) | rfl | omega | go_size)
    clear b1
    go_wp2
    go_ret
    refine ⟨rfl, ?_⟩
    repeat' (first | (with_reducible assumption) | (with_reducible exact Below.refl _ _) | (with_reducible refine Blk.drewN ?_ _) | (with_reducible refine RowIn.drewN ?_ _) | (with_reducible refine below_drewN ?_ _) | (with_reducible refine Blk.drew ?_) | (with_reducible refine RowIn.drew ?_) | (with_reducible refine Below.drew ?_) | (with_reducible refine Blk.new' ?_ ?_ <;> first | (with_reducible rfl) | (simp; done)) | (with_reducible refine Blk.alloc ?_ _) | (with_reducible refine RowIn.alloc ?_ _) | (with_reducible refine Below.alloc ?_ ?_ _) | (with_reducible apply Blk.set') | (with_reducible apply Blk.far') | (with_reducible refine RowIn.far' ?_ ?_ _) | (with_reducible refine Below.far' ?_ ?_ _) | rfl | omega | go_size)
  by_cases h2 : (nl : Int) < n
  · go_enter Tryd.func16, Tryd.ntmps16
    go_wp2_with fail
    refine (alive10 _ (by exact RowIn.row (lo := 0) (hi := w.heap.size) (by repeat' (first | (with_reducible assumption) | (with_reducible exact Below.refl _ _) | (with_reducible refine Blk.drewN ?_ _) | (with_reducible refine RowIn.drewN ?_ _) | (with_reducible refine below_drewN ?_ _) | (with_reducible refine Blk.drew ?_) | (with_reducible refine RowIn.drew ?_) | (with_reducible refine Below.drew ?_) | (with_reducible refine Blk.new' ?_ ?_ <;> first | (with_reducible rfl) | (simp; done)) | (with_reducible refine Blk.alloc ?_ _) | (with_reducible refine RowIn.alloc ?_ _) | (with_reducible refine Below.alloc ?_ ?_ _) | (with_reducible apply Blk.set') | (with_reducible apply Blk.far') | (with_reducible refine RowIn.far' ?_ ?_ _) | (with_reducible refine Below.far' ?_ ?_ _) | rfl | omega | go_size)))).mono ?_
    rintro e w1 ⟨rfl, b1⟩
    have s1 := b1.size
    try simp only [World.size_alloc, World.size_setCell, World.size_drew, size_drewN] at s1
    have bb_1 : Below w.heap.size w w1 := by
      repeat' (first | (with_reducible assumption) | (with_reducible exact Below.refl _ _) | (with_reducible refine Blk.drewN ?_ _) | (with_reducible refine RowIn.drewN ?_ _) | (with_reducible refine below_drewN ?_ _) | (with_reducible refine Blk.drew ?_) | (with_reducible refine RowIn.drew ?_) | (with_reducible refine Below.drew ?_) | (with_reducible refine Blk.new' ?_ ?_ <;> first | (with_reducible rfl) | (simp; done)) | (with_reducible refine Blk.alloc ?_ _) | (with_reducible refine RowIn.alloc ?_ _) | (with_reducible refine Below.alloc ?_ ?_ _) | (with_reducible apply Blk.set') | (with_reducible apply Blk.far') | (with_reducible refine RowIn.far' ?_ ?_ _) | (with_reducible refine Below.far' ?_ ?_ _) | (with_reducible refine Blk.after ?_ b1) | (with_reducible refine RowIn.belowS ?_ b1) | (with_reducible refine Below.after ?_ b1 ?_) | rfl | omega | go_size)
    clear b1
    go_wp2
    go_ret
    refine ⟨rfl, ?_⟩
    repeat' (first | (with_reducible assumption) | (with_reducible exact Below.refl _ _) | (with_reducible refine Blk.drewN ?_ _) | (with_reducible refine RowIn.drewN ?_ _) | (with_reducible refine below_drewN ?_ _) | (with_reducible refine Blk.drew ?_) | (with_reducible refine RowIn.drew ?_) | (with_reducible refine Below.drew ?_) | (with_reducible refine Blk.new' ?_ ?_ <;> first | (with_reducible rfl) | (simp; done)) | (with_reducible refine Blk.alloc ?_ _) | (with_reducible refine RowIn.alloc ?_ _) | (with_reducible refine Below.alloc ?_ ?_ _) | (with_reducible apply Blk.set') | (with_reducible apply Blk.far') | (with_reducible refine RowIn.far' ?_ ?_ _) | (with_reducible refine Below.far' ?_ ?_ _) | rfl | omega | go_size)
  obtain ⟨n, rfl⟩ := Int.eq_ofNat_of_zero_le (by omega : 0 ≤ n)
  have t1 : decide ((n : Int) < 0) = false := decide_eq_false (by omega)
  have t2 : decide ((nl : Int) < (n : Int)) = false := decide_eq_false (by omega)
  have hpn : n ≤ nl := by omega
  have hpc : (n : Int) ≤ (cl : Int) := by omega
  clear h1 h2
  go_enter Tryd.func16, Tryd.ntmps16
  go_wp2_with fail
  refine (cenc_ok Al nl cl xsl _ (by exact RowIn.row (lo := 0) (hi := w.heap.size) (by repeat' (first | (with_reducible assumption) | (with_reducible exact Below.refl _ _) | (with_reducible refine Blk.drewN ?_ _) | (with_reducible refine RowIn.drewN ?_ _) | (with_reducible refine below_drewN ?_ _) | (with_reducible refine Blk.drew ?_) | (with_reducible refine RowIn.drew ?_) | (with_reducible refine Below.drew ?_) | (with_reducible refine Blk.new' ?_ ?_ <;> first | (with_reducible rfl) | (simp; done)) | (with_reducible refine Blk.alloc ?_ _) | (with_reducible refine RowIn.alloc ?_ _) | (with_reducible refine Below.alloc ?_ ?_ _) | (with_reducible apply Blk.set') | (with_reducible apply Blk.far') | (with_reducible refine RowIn.far' ?_ ?_ _) | (with_reducible refine Below.far' ?_ ?_ _) | rfl | omega | go_size))) hxl (by omega)).mono ?_
  rintro e w1 ⟨Ab, mb, cb, xb, rfl, hcb, rb, HXb, b1⟩
  replace rb := rb.mono (lo' := w.heap.size + 0) (by go_size) (Nat.le_refl _)
  have s1 := b1.size
  try simp only [World.size_alloc, World.size_setCell, World.size_drew, size_drewN] at s1
  obtain ⟨rl_1, rt_1, rb_1, bb_1⟩ : RowIn .u32 w1 (0) (w.heap.size) Al nl xsl ∧ RowIn .u8 w1 (0) (w.heap.size) (some ⟨0, 0, none⟩) 64 dbTab ∧ RowIn .u8 w1 (w.heap.size + 0) (w1.heap.size) Ab mb (pack xb) ∧ Below w.heap.size w w1 := by
    refine ⟨?_, ?_, ?_, ?_⟩
    all_goals repeat' (first | (with_reducible assumption) | (with_reducible exact Below.refl _ _) | (with_reducible refine Blk.drewN ?_ _) | (with_reducible refine RowIn.drewN ?_ _) | (with_reducible refine below_drewN ?_ _) | (with_reducible refine Blk.drew ?_) | (with_reducible refine RowIn.drew ?_) | (with_reducible refine Below.drew ?_) | (with_reducible refine Blk.new' ?_ ?_ <;> first | (with_reducible rfl) | (simp; done)) | (with_reducible refine Blk.alloc ?_ _) | (with_reducible refine RowIn.alloc ?_ _) | (with_reducible refine Below.alloc ?_ ?_ _) | (with_reducible apply Blk.set') | (with_reducible apply Blk.far') | (with_reducible refine RowIn.far' ?_ ?_ _) | (with_reducible refine Below.far' ?_ ?_ _) | (with_reducible refine Blk.after ?_ b1) | (with_reducible refine RowIn.belowS ?_ b1) | (with_reducible refine Below.after ?_ b1 ?_) | rfl | omega | go_size)
  clear b1
  clear rb
  have hbl := codeP_le start_ok hxl nl
  rw [← HXb.out] at hbl
  obtain ⟨hbl1, hbl2⟩ := hbl
  obtain ⟨tt, ht1, ht2, ht3⟩ := unpack_pack xb
  have hmb := rb_1.len
  rw [pack_len] at hmb
  unfold bytesFor at hmb
  have ht4 : tt.length = 8 * mb - xb.length := by rw [ht2]; unfold bytesFor; omega
  have HT := Lib.hid ht1
  have hmb2 : xb.length ≤ 8 * mb ∧ 8 * mb ≤ xb.length + 7 ∧ mb ≤ 1020 := by omega
  obtain ⟨hmb3, hmb4, hmb5⟩ := hmb2
  clear ht1 ht2 hmb
  obtain ⟨u0, u1, v0, v1, hu⟩ := Dual.four (afterL Cad.Code.start (pre xsl nl))
  have HF1 : Hid (feed nl ⟨10, 10, 16384, 16384⟩ ([] ++ unpack (pack xb)) = .ok (pre xsl nl) 0 ⟨u0, u1, v0, v1⟩ tt) := Lib.hid (by
    have h := feed_code Cad.Code.start (pre xsl nl) (pre_small hxl nl) tt
    rw [pre_len, if_neg (by omega), hu] at h
    rw [List.nil_append, HT.out, HXb.out]; exact h)
  have HU := Lib.hid hu
  clear hu
  go_wp2_with fail
  refine (rst_ok nl _ (by omega)).mono ?_
  rintro e w2 ⟨rfl, b2⟩
  have s2 := b2.size
  try simp only [World.size_alloc, World.size_setCell, World.size_drew, size_drewN] at s2
  obtain ⟨zb_2, rl_2, rt_2, rb_2, bb_2⟩ : Blk w2 (w1.heap.size) 24 [.slice Ab mb cb, .int .i64 ((xb.length : Nat) : Int)] ∧ RowIn .u32 w2 (0) (w.heap.size) Al nl xsl ∧ RowIn .u8 w2 (0) (w.heap.size) (some ⟨0, 0, none⟩) 64 dbTab ∧ RowIn .u8 w2 (w.heap.size + 0) (w1.heap.size) Ab mb (pack xb) ∧ Below w.heap.size w w2 := by
    refine ⟨?_, ?_, ?_, ?_, ?_⟩
    all_goals repeat' (first | (with_reducible assumption) | (with_reducible exact Below.refl _ _) | (with_reducible refine Blk.drewN ?_ _) | (with_reducible refine RowIn.drewN ?_ _) | (with_reducible refine below_drewN ?_ _) | (with_reducible refine Blk.drew ?_) | (with_reducible refine RowIn.drew ?_) | (with_reducible refine Below.drew ?_) | (with_reducible refine Blk.new' ?_ ?_ <;> first | (with_reducible rfl) | (simp; done)) | (with_reducible refine Blk.alloc ?_ _) | (with_reducible refine RowIn.alloc ?_ _) | (with_reducible refine Below.alloc ?_ ?_ _) | (with_reducible apply Blk.set') | (with_reducible apply Blk.far') | (with_reducible refine RowIn.far' ?_ ?_ _) | (with_reducible refine Below.far' ?_ ?_ _) | (with_reducible refine Blk.after ?_ b2) | (with_reducible refine RowIn.belowS ?_ b2) | (with_reducible refine Below.after ?_ b2 ?_) | rfl | omega | go_size)
  clear rl_1 rt_1 rb_1 bb_1 b2
  have kb_2 := zb_2.cell; have fb_2 := zb_2.frozen; have lb_2 := zb_2.lt
  go_wp2_with fail
  refine (rfeed_c nl 10 10 16384 16384 0 0 none [] Ab mb cb (pack xb) _ (by omega) (fok10 (by omega)) Row.nil ⟨Nat.le_refl _, Nat.zero_le _⟩ (by exact RowIn.row (lo := w.heap.size + 0) (hi := w1.heap.size) (by repeat' (first | (with_reducible assumption) | (with_reducible exact Below.refl _ _) | (with_reducible refine Blk.drewN ?_ _) | (with_reducible refine RowIn.drewN ?_ _) | (with_reducible refine below_drewN ?_ _) | (with_reducible refine Blk.drew ?_) | (with_reducible refine RowIn.drew ?_) | (with_reducible refine Below.drew ?_) | (with_reducible refine Blk.new' ?_ ?_ <;> first | (with_reducible rfl) | (simp; done)) | (with_reducible refine Blk.alloc ?_ _) | (with_reducible refine RowIn.alloc ?_ _) | (with_reducible refine Below.alloc ?_ ?_ _) | (with_reducible apply Blk.set') | (with_reducible apply Blk.far') | (with_reducible refine RowIn.far' ?_ ?_ _) | (with_reducible refine Below.far' ?_ ?_ _) | rfl | omega | go_size))) hcb (pack_u8 _) (by exact RowIn.row (lo := 0) (hi := w.heap.size) (by repeat' (first | (with_reducible assumption) | (with_reducible exact Below.refl _ _) | (with_reducible refine Blk.drewN ?_ _) | (with_reducible refine RowIn.drewN ?_ _) | (with_reducible refine below_drewN ?_ _) | (with_reducible refine Blk.drew ?_) | (with_reducible refine RowIn.drew ?_) | (with_reducible refine Below.drew ?_) | (with_reducible refine Blk.new' ?_ ?_ <;> first | (with_reducible rfl) | (simp; done)) | (with_reducible refine Blk.alloc ?_ _) | (with_reducible refine RowIn.alloc ?_ _) | (with_reducible refine Below.alloc ?_ ?_ _) | (with_reducible apply Blk.set') | (with_reducible apply Blk.far') | (with_reducible refine RowIn.far' ?_ ?_ _) | (with_reducible refine Below.far' ?_ ?_ _) | rfl | omega | go_size))) (by omega) HF1.out).mono ?_
  rintro e w3 ⟨mx, cx, kx, dx, Ax, Bx, xx, zx, rfl, hcx, HXx, rx, hdx, HZx, rlx, b3⟩
  have lnx := rlx.len
  replace rx := rx.mono (lo' := w2.heap.size + 1) (by go_size) (Nat.le_refl _)
  replace rlx := rlx.mono (lo' := w2.heap.size + 1) (by go_size) (Nat.le_refl _)
  have s3 := b3.size
  try simp only [World.size_alloc, World.size_setCell, World.size_drew, size_drewN] at s3
  obtain ⟨zb_3, zs_3, rl_3, rt_3, rb_3, rx_3, rlx_3, bb_3⟩ : Blk w3 (w1.heap.size) 24 [.slice Ab mb cb, .int .i64 ((xb.length : Nat) : Int)] ∧ Blk w3 (w2.heap.size) 40 [.int .i64 (nl : Int), .int .i64 10, .int .i64 10, .int .u64 16384, .int .u64 16384, .slice none 0 0, .int .i64 0] ∧ RowIn .u32 w3 (0) (w.heap.size) Al nl xsl ∧ RowIn .u8 w3 (0) (w.heap.size) (some ⟨0, 0, none⟩) 64 dbTab ∧ RowIn .u8 w3 (w.heap.size + 0) (w1.heap.size) Ab mb (pack xb) ∧ RowIn .u8 w3 (w2.heap.size + 1) (w3.heap.size) Ax mx (pack xx) ∧ RowIn .u32 w3 (w2.heap.size + 1) (w3.heap.size) Bx kx zx ∧ Below w.heap.size w w3 := by
    refine ⟨?_, ?_, ?_, ?_, ?_, ?_, ?_, ?_⟩
    all_goals repeat' (first | (with_reducible assumption) | (with_reducible exact Below.refl _ _) | (with_reducible refine Blk.drewN ?_ _) | (with_reducible refine RowIn.drewN ?_ _) | (with_reducible refine below_drewN ?_ _) | (with_reducible refine Blk.drew ?_) | (with_reducible refine RowIn.drew ?_) | (with_reducible refine Below.drew ?_) | (with_reducible refine Blk.new' ?_ ?_ <;> first | (with_reducible rfl) | (simp; done)) | (with_reducible refine Blk.alloc ?_ _) | (with_reducible refine RowIn.alloc ?_ _) | (with_reducible refine Below.alloc ?_ ?_ _) | (with_reducible apply Blk.set') | (with_reducible apply Blk.far') | (with_reducible refine RowIn.far' ?_ ?_ _) | (with_reducible refine Below.far' ?_ ?_ _) | (with_reducible refine Blk.after ?_ b3) | (with_reducible refine RowIn.belowS ?_ b3) | (with_reducible refine Below.after ?_ b3 ?_) | rfl | omega | go_size)
  clear zb_2 rl_2 rt_2 rb_2 bb_2 kb_2 fb_2 lb_2 b3
  have kb_3 := zb_3.cell; have fb_3 := zb_3.frozen; have lb_3 := zb_3.lt
  have ks_3 := zs_3.cell; have fs_3 := zs_3.frozen; have ls_3 := zs_3.lt
  clear rx rlx
  have Lx : xx.length ≤ tt.length ∧ tt.length ≤ xx.length := by rw [HXx.out]; omega
  obtain ⟨Lx1, Lx2⟩ := Lx
  go_wp2_with fail
  refine (cafter_ok Al nl cl xsl _ (by exact RowIn.row (lo := 0) (hi := w.heap.size) (by repeat' (first | (with_reducible assumption) | (with_reducible exact Below.refl _ _) | (with_reducible refine Blk.drewN ?_ _) | (with_reducible refine RowIn.drewN ?_ _) | (with_reducible refine below_drewN ?_ _) | (with_reducible refine Blk.drew ?_) | (with_reducible refine RowIn.drew ?_) | (with_reducible refine Below.drew ?_) | (with_reducible refine Blk.new' ?_ ?_ <;> first | (with_reducible rfl) | (simp; done)) | (with_reducible refine Blk.alloc ?_ _) | (with_reducible refine RowIn.alloc ?_ _) | (with_reducible refine Below.alloc ?_ ?_ _) | (with_reducible apply Blk.set') | (with_reducible apply Blk.far') | (with_reducible refine RowIn.far' ?_ ?_ _) | (with_reducible refine Below.far' ?_ ?_ _) | rfl | omega | go_size))) hxl (by omega)).mono ?_
  rintro e w4 ⟨p0, p1, q0, q1, rfl, HSd, b4⟩
  have s4 := b4.size
  try simp only [World.size_alloc, World.size_setCell, World.size_drew, size_drewN] at s4
  obtain ⟨zb_4, zs_4, zx_4, rl_4, rt_4, rb_4, rx_4, rlx_4, bb_4⟩ : Blk w4 (w1.heap.size) 24 [.slice Ab mb cb, .int .i64 ((xb.length : Nat) : Int)] ∧ Blk w4 (w2.heap.size) 40 [.int .i64 (nl : Int), .int .i64 10, .int .i64 10, .int .u64 16384, .int .u64 16384, .slice none 0 0, .int .i64 0] ∧ Blk w4 (w3.heap.size) 40 [.int .i64 0, .int .i64 (u0 : Int), .int .i64 (u1 : Int), .int .u64 (v0 : Int), .int .u64 (v1 : Int), .slice Ax mx cx, .int .i64 (((xx.length : Nat)) : Int)] ∧ RowIn .u32 w4 (0) (w.heap.size) Al nl xsl ∧ RowIn .u8 w4 (0) (w.heap.size) (some ⟨0, 0, none⟩) 64 dbTab ∧ RowIn .u8 w4 (w.heap.size + 0) (w1.heap.size) Ab mb (pack xb) ∧ RowIn .u8 w4 (w2.heap.size + 1) (w3.heap.size) Ax mx (pack xx) ∧ RowIn .u32 w4 (w2.heap.size + 1) (w3.heap.size) Bx kx zx ∧ Below w.heap.size w w4 := by
    refine ⟨?_, ?_, ?_, ?_, ?_, ?_, ?_, ?_, ?_⟩
    all_goals repeat' (first | (with_reducible assumption) | (with_reducible exact Below.refl _ _) | (with_reducible refine Blk.drewN ?_ _) | (with_reducible refine RowIn.drewN ?_ _) | (with_reducible refine below_drewN ?_ _) | (with_reducible refine Blk.drew ?_) | (with_reducible refine RowIn.drew ?_) | (with_reducible refine Below.drew ?_) | (with_reducible refine Blk.new' ?_ ?_ <;> first | (with_reducible rfl) | (simp; done)) | (with_reducible refine Blk.alloc ?_ _) | (with_reducible refine RowIn.alloc ?_ _) | (with_reducible refine Below.alloc ?_ ?_ _) | (with_reducible apply Blk.set') | (with_reducible apply Blk.far') | (with_reducible refine RowIn.far' ?_ ?_ _) | (with_reducible refine Below.far' ?_ ?_ _) | (with_reducible refine Blk.after ?_ b4) | (with_reducible refine RowIn.belowS ?_ b4) | (with_reducible refine Below.after ?_ b4 ?_) | rfl | omega | go_size)
  clear zb_3 zs_3 rl_3 rt_3 rb_3 rx_3 rlx_3 bb_3 kb_3 fb_3 lb_3 ks_3 fs_3 ls_3 b4
  have kb_4 := zb_4.cell; have fb_4 := zb_4.frozen; have lb_4 := zb_4.lt
  have ks_4 := zs_4.cell; have fs_4 := zs_4.frozen; have ls_4 := zs_4.lt
  have kx_4 := zx_4.cell; have fx_4 := zx_4.frozen; have lx_4 := zx_4.lt
  have he := HU.out.symm.trans HSd.out.symm
  injection he with he0 he1 he2 he3
  obtain rfl : u0 = p0 := he0
  obtain rfl : u1 = p1 := he1
  obtain rfl : v0 = q0 := he2
  obtain rfl : v1 = q1 := he3
  clear HSd HU HF1
  have HE : Hid (xsl = zx) := Lib.hid (by rw [HZx.out]; exact (ints_pre hxl HLl.out).symm)
  have t5 : (((xx.length : Nat) : Int) != 8 * (mb : Int) - ((xb.length : Nat) : Int)) = false := by rw [bne_eq_false_iff_eq]; omega
  have hkx : kx ≤ nl ∧ nl ≤ kx := by rw [← lnx, ← HE.out, HLl.out]; omega
  obtain ⟨hkx1, hkx2⟩ := hkx
  go_wp2_with fail
  refine (r9same_eq Al Bx nl cl kx dx xsl zx _ (by exact RowIn.row (lo := 0) (hi := w.heap.size) (by repeat' (first | (with_reducible assumption) | (with_reducible exact Below.refl _ _) | (with_reducible refine Blk.drewN ?_ _) | (with_reducible refine RowIn.drewN ?_ _) | (with_reducible refine below_drewN ?_ _) | (with_reducible refine Blk.drew ?_) | (with_reducible refine RowIn.drew ?_) | (with_reducible refine Below.drew ?_) | (with_reducible refine Blk.new' ?_ ?_ <;> first | (with_reducible rfl) | (simp; done)) | (with_reducible refine Blk.alloc ?_ _) | (with_reducible refine RowIn.alloc ?_ _) | (with_reducible refine Below.alloc ?_ ?_ _) | (with_reducible apply Blk.set') | (with_reducible apply Blk.far') | (with_reducible refine RowIn.far' ?_ ?_ _) | (with_reducible refine Below.far' ?_ ?_ _) | rfl | omega | go_size))) (by exact RowIn.row (lo := w2.heap.size + 1) (hi := w3.heap.size) (by repeat' (first | (with_reducible assumption) | (with_reducible exact Below.refl _ _) | (with_reducible refine Blk.drewN ?_ _) | (with_reducible refine RowIn.drewN ?_ _) | (with_reducible refine below_drewN ?_ _) | (with_reducible refine Blk.drew ?_) | (with_reducible refine RowIn.drew ?_) | (with_reducible refine Below.drew ?_) | (with_reducible refine Blk.new' ?_ ?_ <;> first | (with_reducible rfl) | (simp; done)) | (with_reducible refine Blk.alloc ?_ _) | (with_reducible refine RowIn.alloc ?_ _) | (with_reducible refine Below.alloc ?_ ?_ _) | (with_reducible apply Blk.set') | (with_reducible apply Blk.far') | (with_reducible refine RowIn.far' ?_ ?_ _) | (with_reducible refine Below.far' ?_ ?_ _) | rfl | omega | go_size))) (by omega) HE.out).mono ?_
  rintro e w5 ⟨rfl, b5⟩
  have s5 := b5.size
  try simp only [World.size_alloc, World.size_setCell, World.size_drew, size_drewN] at s5
  obtain ⟨zb_5, zs_5, zx_5, zd_5, rl_5, rt_5, rb_5, rx_5, rlx_5, bb_5⟩ : Blk w5 (w1.heap.size) 24 [.slice Ab mb cb, .int .i64 ((xb.length : Nat) : Int)] ∧ Blk w5 (w2.heap.size) 40 [.int .i64 (nl : Int), .int .i64 10, .int .i64 10, .int .u64 16384, .int .u64 16384, .slice none 0 0, .int .i64 0] ∧ Blk w5 (w3.heap.size) 40 [.int .i64 0, .int .i64 (u0 : Int), .int .i64 (u1 : Int), .int .u64 (v0 : Int), .int .u64 (v1 : Int), .slice Ax mx cx, .int .i64 (((xx.length : Nat)) : Int)] ∧ Blk w5 (w4.heap.size) 38 [.int .i64 (u0 : Int), .int .i64 (u1 : Int), .int .u64 (v0 : Int), .int .u64 (v1 : Int)] ∧ RowIn .u32 w5 (0) (w.heap.size) Al nl xsl ∧ RowIn .u8 w5 (0) (w.heap.size) (some ⟨0, 0, none⟩) 64 dbTab ∧ RowIn .u8 w5 (w.heap.size + 0) (w1.heap.size) Ab mb (pack xb) ∧ RowIn .u8 w5 (w2.heap.size + 1) (w3.heap.size) Ax mx (pack xx) ∧ RowIn .u32 w5 (w2.heap.size + 1) (w3.heap.size) Bx kx zx ∧ Below w.heap.size w w5 := by
    refine ⟨?_, ?_, ?_, ?_, ?_, ?_, ?_, ?_, ?_, ?_⟩
    all_goals repeat' (first | (with_reducible assumption) | (with_reducible exact Below.refl _ _) | (with_reducible refine Blk.drewN ?_ _) | (with_reducible refine RowIn.drewN ?_ _) | (with_reducible refine below_drewN ?_ _) | (with_reducible refine Blk.drew ?_) | (with_reducible refine RowIn.drew ?_) | (with_reducible refine Below.drew ?_) | (with_reducible refine Blk.new' ?_ ?_ <;> first | (with_reducible rfl) | (simp; done)) | (with_reducible refine Blk.alloc ?_ _) | (with_reducible refine RowIn.alloc ?_ _) | (with_reducible refine Below.alloc ?_ ?_ _) | (with_reducible apply Blk.set') | (with_reducible apply Blk.far') | (with_reducible refine RowIn.far' ?_ ?_ _) | (with_reducible refine Below.far' ?_ ?_ _) | (with_reducible refine Blk.after ?_ b5) | (with_reducible refine RowIn.belowS ?_ b5) | (with_reducible refine Below.after ?_ b5 ?_) | rfl | omega | go_size)
  clear zb_4 zs_4 zx_4 rl_4 rt_4 rb_4 rx_4 rlx_4 bb_4 kb_4 fb_4 lb_4 ks_4 fs_4 ls_4 kx_4 fx_4 lx_4 b5
  have kb_5 := zb_5.cell; have fb_5 := zb_5.frozen; have lb_5 := zb_5.lt
  have ks_5 := zs_5.cell; have fs_5 := zs_5.frozen; have ls_5 := zs_5.lt
  have kx_5 := zx_5.cell; have fx_5 := zx_5.frozen; have lx_5 := zx_5.lt
  have kd_5 := zd_5.cell; have fd_5 := zd_5.frozen; have ld_5 := zd_5.lt
  go_wp2_with fail
  refine (cenc_ok _ n _ (xsl.take n) _ (by exact (part_row2 (show RowIn .u32 _ 0 w.heap.size Al nl xsl by repeat' (first | (with_reducible assumption) | (with_reducible exact Below.refl _ _) | (with_reducible refine Blk.drewN ?_ _) | (with_reducible refine RowIn.drewN ?_ _) | (with_reducible refine below_drewN ?_ _) | (with_reducible refine Blk.drew ?_) | (with_reducible refine RowIn.drew ?_) | (with_reducible refine Below.drew ?_) | (with_reducible refine Blk.new' ?_ ?_ <;> first | (with_reducible rfl) | (simp; done)) | (with_reducible refine Blk.alloc ?_ _) | (with_reducible refine RowIn.alloc ?_ _) | (with_reducible refine Below.alloc ?_ ?_ _) | (with_reducible apply Blk.set') | (with_reducible apply Blk.far') | (with_reducible refine RowIn.far' ?_ ?_ _) | (with_reducible refine Below.far' ?_ ?_ _) | rfl | omega | go_size)) hpn).row) (within_take2 hxl n) (by omega)).mono ?_
  rintro e w6 ⟨Af, mf, cf, xf, rfl, hcf, rf, HXf, b6⟩
  replace rf := rf.mono (lo' := w5.heap.size + 0) (by go_size) (Nat.le_refl _)
  have s6 := b6.size
  try simp only [World.size_alloc, World.size_setCell, World.size_drew, size_drewN] at s6
  obtain ⟨zb_6, rl_6, rt_6, rb_6, rf_6, bb_6⟩ : Blk w6 (w1.heap.size) 24 [.slice Ab mb cb, .int .i64 ((xb.length : Nat) : Int)] ∧ RowIn .u32 w6 (0) (w.heap.size) Al nl xsl ∧ RowIn .u8 w6 (0) (w.heap.size) (some ⟨0, 0, none⟩) 64 dbTab ∧ RowIn .u8 w6 (w.heap.size + 0) (w1.heap.size) Ab mb (pack xb) ∧ RowIn .u8 w6 (w5.heap.size + 0) (w6.heap.size) Af mf (pack xf) ∧ Below w.heap.size w w6 := by
    refine ⟨?_, ?_, ?_, ?_, ?_, ?_⟩
    all_goals repeat' (first | (with_reducible assumption) | (with_reducible exact Below.refl _ _) | (with_reducible refine Blk.drewN ?_ _) | (with_reducible refine RowIn.drewN ?_ _) | (with_reducible refine below_drewN ?_ _) | (with_reducible refine Blk.drew ?_) | (with_reducible refine RowIn.drew ?_) | (with_reducible refine Below.drew ?_) | (with_reducible refine Blk.new' ?_ ?_ <;> first | (with_reducible rfl) | (simp; done)) | (with_reducible refine Blk.alloc ?_ _) | (with_reducible refine RowIn.alloc ?_ _) | (with_reducible refine Below.alloc ?_ ?_ _) | (with_reducible apply Blk.set') | (with_reducible apply Blk.far') | (with_reducible refine RowIn.far' ?_ ?_ _) | (with_reducible refine Below.far' ?_ ?_ _) | (with_reducible refine Blk.after ?_ b6) | (with_reducible refine RowIn.belowS ?_ b6) | (with_reducible refine Below.after ?_ b6 ?_) | rfl | omega | go_size)
  clear zb_5 zs_5 zx_5 zd_5 rl_5 rt_5 rb_5 rx_5 rlx_5 bb_5 kb_5 fb_5 lb_5 ks_5 fs_5 ls_5 kx_5 fx_5 lx_5 kd_5 fd_5 ld_5 b6
  have kb_6 := zb_6.cell; have fb_6 := zb_6.frozen; have lb_6 := zb_6.lt
  clear rf
  have HF0 : Hid (xf = codeL Cad.Code.start (pre xsl n)) := Lib.hid (by rw [HXf.out, codeP_row _ _ (Nat.le_refl _)]; rfl)
  clear HXf
  have hsplit : codeL Cad.Code.start (pre xsl nl) = codeL Cad.Code.start (pre xsl n) ++ codeL (afterL Cad.Code.start (pre xsl n)) ((pre xsl nl).drop n) := by
    have h := codeL_take Cad.Code.start (pre xsl nl) n
    rwa [pre_take xsl hpn] at h
  obtain ⟨rr, HRR⟩ : ∃ rr, Hid (rr = codeL (afterL Cad.Code.start (pre xsl n)) ((pre xsl nl).drop n) ++ tt) := ⟨_, Lib.hid rfl⟩
  have HXS : Hid (unpack (pack xb) = codeL Cad.Code.start (pre xsl n) ++ rr) := Lib.hid (by rw [HT.out, HXb.out, HRR.out, ← List.append_assoc, ← hsplit]; rfl)
  have hrl : rr.length ≤ 8 * mb - xf.length ∧ 8 * mb - xf.length ≤ rr.length ∧ xf.length ≤ 8 * mb := by
    have h := congrArg List.length HXS.out
    rw [List.length_append, ← HF0.out, HT.out, List.length_append] at h
    omega
  obtain ⟨hrl1, hrl2, hrl3⟩ := hrl
  have hfc := feed_code Cad.Code.start (pre xsl n) (pre_small hxl n) rr
  rw [pre_len, ← HXS.out] at hfc
  have HFC := Lib.hid hfc
  clear hfc hsplit
  go_wp2_with fail
  refine (rst_ok n _ (by omega)).mono ?_
  rintro e w7 ⟨rfl, b7⟩
  have s7 := b7.size
  try simp only [World.size_alloc, World.size_setCell, World.size_drew, size_drewN] at s7
  obtain ⟨zb_7, zf_7, rl_7, rt_7, rb_7, rf_7, bb_7⟩ : Blk w7 (w1.heap.size) 24 [.slice Ab mb cb, .int .i64 ((xb.length : Nat) : Int)] ∧ Blk w7 (w6.heap.size) 24 [.slice Af mf cf, .int .i64 ((xf.length : Nat) : Int)] ∧ RowIn .u32 w7 (0) (w.heap.size) Al nl xsl ∧ RowIn .u8 w7 (0) (w.heap.size) (some ⟨0, 0, none⟩) 64 dbTab ∧ RowIn .u8 w7 (w.heap.size + 0) (w1.heap.size) Ab mb (pack xb) ∧ RowIn .u8 w7 (w5.heap.size + 0) (w6.heap.size) Af mf (pack xf) ∧ Below w.heap.size w w7 := by
    refine ⟨?_, ?_, ?_, ?_, ?_, ?_, ?_⟩
    all_goals repeat' (first | (with_reducible assumption) | (with_reducible exact Below.refl _ _) | (with_reducible refine Blk.drewN ?_ _) | (with_reducible refine RowIn.drewN ?_ _) | (with_reducible refine below_drewN ?_ _) | (with_reducible refine Blk.drew ?_) | (with_reducible refine RowIn.drew ?_) | (with_reducible refine Below.drew ?_) | (with_reducible refine Blk.new' ?_ ?_ <;> first | (with_reducible rfl) | (simp; done)) | (with_reducible refine Blk.alloc ?_ _) | (with_reducible refine RowIn.alloc ?_ _) | (with_reducible refine Below.alloc ?_ ?_ _) | (with_reducible apply Blk.set') | (with_reducible apply Blk.far') | (with_reducible refine RowIn.far' ?_ ?_ _) | (with_reducible refine Below.far' ?_ ?_ _) | (with_reducible refine Blk.after ?_ b7) | (with_reducible refine RowIn.belowS ?_ b7) | (with_reducible refine Below.after ?_ b7 ?_) | rfl | omega | go_size)
  clear zb_6 rl_6 rt_6 rb_6 rf_6 bb_6 kb_6 fb_6 lb_6 b7
  have kb_7 := zb_7.cell; have fb_7 := zb_7.frozen; have lb_7 := zb_7.lt
  have kf_7 := zf_7.cell; have ff_7 := zf_7.frozen; have lf_7 := zf_7.lt
  go_wp2_with fail
  by_cases h8 : 8 ≤ rr.length
  · have t6 : decide ((8 : Int) ≤ 8 * (mb : Int) - ((xf.length : Nat) : Int)) = true := decide_eq_true (by omega)
    have hfe : feed n ⟨10, 10, 16384, 16384⟩ ([] ++ unpack (pack xb)) = .err 38 := by rw [List.nil_append]; have h := HFC.out; rwa [if_pos (by omega)] at h
    have HFE := Lib.hid hfe
    clear hfe HFC
    refine (rfeed_e n 10 10 16384 16384 0 0 none [] Ab mb cb (pack xb) _ (by omega) (fok10 (by omega)) Row.nil ⟨Nat.le_refl _, Nat.zero_le _⟩ (by exact RowIn.row (lo := w.heap.size + 0) (hi := w1.heap.size) (by repeat' (first | (with_reducible assumption) | (with_reducible exact Below.refl _ _) | (with_reducible refine Blk.drewN ?_ _) | (with_reducible refine RowIn.drewN ?_ _) | (with_reducible refine below_drewN ?_ _) | (with_reducible refine Blk.drew ?_) | (with_reducible refine RowIn.drew ?_) | (with_reducible refine Below.drew ?_) | (with_reducible refine Blk.new' ?_ ?_ <;> first | (with_reducible rfl) | (simp; done)) | (with_reducible refine Blk.alloc ?_ _) | (with_reducible refine RowIn.alloc ?_ _) | (with_reducible refine Below.alloc ?_ ?_ _) | (with_reducible apply Blk.set') | (with_reducible apply Blk.far') | (with_reducible refine RowIn.far' ?_ ?_ _) | (with_reducible refine Below.far' ?_ ?_ _) | rfl | omega | go_size))) hcb (pack_u8 _) (by exact RowIn.row (lo := 0) (hi := w.heap.size) (by repeat' (first | (with_reducible assumption) | (with_reducible exact Below.refl _ _) | (with_reducible refine Blk.drewN ?_ _) | (with_reducible refine RowIn.drewN ?_ _) | (with_reducible refine below_drewN ?_ _) | (with_reducible refine Blk.drew ?_) | (with_reducible refine RowIn.drew ?_) | (with_reducible refine Below.drew ?_) | (with_reducible refine Blk.new' ?_ ?_ <;> first | (with_reducible rfl) | (simp; done)) | (with_reducible refine Blk.alloc ?_ _) | (with_reducible refine RowIn.alloc ?_ _) | (with_reducible refine Below.alloc ?_ ?_ _) | (with_reducible apply Blk.set') | (with_reducible apply Blk.far') | (with_reducible refine RowIn.far' ?_ ?_ _) | (with_reducible refine Below.far' ?_ ?_ _) | rfl | omega | go_size))) (by omega) HFE.out).mono ?_
    rintro e wz ⟨bz, rfl⟩
    have b8 := bz
    clear bz
    have s8 := b8.size
    try simp only [World.size_alloc, World.size_setCell, World.size_drew, size_drewN] at s8
    obtain ⟨zb_8, zf_8, zs_8, rl_8, rt_8, rb_8, rf_8, bb_8⟩ : Blk wz (w1.heap.size) 24 [.slice Ab mb cb, .int .i64 ((xb.length : Nat) : Int)] ∧ Blk wz (w6.heap.size) 24 [.slice Af mf cf, .int .i64 ((xf.length : Nat) : Int)] ∧ Blk wz (w7.heap.size) 40 [.int .i64 (n : Int), .int .i64 10, .int .i64 10, .int .u64 16384, .int .u64 16384, .slice none 0 0, .int .i64 0] ∧ RowIn .u32 wz (0) (w.heap.size) Al nl xsl ∧ RowIn .u8 wz (0) (w.heap.size) (some ⟨0, 0, none⟩) 64 dbTab ∧ RowIn .u8 wz (w.heap.size + 0) (w1.heap.size) Ab mb (pack xb) ∧ RowIn .u8 wz (w5.heap.size + 0) (w6.heap.size) Af mf (pack xf) ∧ Below w.heap.size w wz := by
      refine ⟨?_, ?_, ?_, ?_, ?_, ?_, ?_, ?_⟩
      all_goals repeat' (first | (with_reducible assumption) | (with_reducible exact Below.refl _ _) | (with_reducible refine Blk.drewN ?_ _) | (with_reducible refine RowIn.drewN ?_ _) | (with_reducible refine below_drewN ?_ _) | (with_reducible refine Blk.drew ?_) | (with_reducible refine RowIn.drew ?_) | (with_reducible refine Below.drew ?_) | (with_reducible refine Blk.new' ?_ ?_ <;> first | (with_reducible rfl) | (simp; done)) | (with_reducible refine Blk.alloc ?_ _) | (with_reducible refine RowIn.alloc ?_ _) | (with_reducible refine Below.alloc ?_ ?_ _) | (with_reducible apply Blk.set') | (with_reducible apply Blk.far') | (with_reducible refine RowIn.far' ?_ ?_ _) | (with_reducible refine Below.far' ?_ ?_ _) | (with_reducible refine Blk.after ?_ b8) | (with_reducible refine RowIn.belowS ?_ b8) | (with_reducible refine Below.after ?_ b8 ?_) | rfl | omega | go_size)
    clear zb_7 zf_7 rl_7 rt_7 rb_7 rf_7 bb_7 kb_7 fb_7 lb_7 kf_7 ff_7 lf_7 b8
    have kb_8 := zb_8.cell; have fb_8 := zb_8.frozen; have lb_8 := zb_8.lt
    have kf_8 := zf_8.cell; have ff_8 := zf_8.frozen; have lf_8 := zf_8.lt
    have ks_8 := zs_8.cell; have fs_8 := zs_8.frozen; have ls_8 := zs_8.lt
    go_wp2_with fail
    refine (alive10 _ (by exact RowIn.row (lo := 0) (hi := w.heap.size) (by repeat' (first | (with_reducible assumption) | (with_reducible exact Below.refl _ _) | (with_reducible refine Blk.drewN ?_ _) | (with_reducible refine RowIn.drewN ?_ _) | (with_reducible refine below_drewN ?_ _) | (with_reducible refine Blk.drew ?_) | (with_reducible refine RowIn.drew ?_) | (with_reducible refine Below.drew ?_) | (with_reducible refine Blk.new' ?_ ?_ <;> first | (with_reducible rfl) | (simp; done)) | (with_reducible refine Blk.alloc ?_ _) | (with_reducible refine RowIn.alloc ?_ _) | (with_reducible refine Below.alloc ?_ ?_ _) | (with_reducible apply Blk.set') | (with_reducible apply Blk.far') | (with_reducible refine RowIn.far' ?_ ?_ _) | (with_reducible refine Below.far' ?_ ?_ _) | rfl | omega | go_size)))).mono ?_
    rintro e w9 ⟨rfl, b9⟩
    have s9 := b9.size
    try simp only [World.size_alloc, World.size_setCell, World.size_drew, size_drewN] at s9
    have bb_9 : Below w.heap.size w w9 := by
      repeat' (first | (with_reducible assumption) | (with_reducible exact Below.refl _ _) | (with_reducible refine Blk.drewN ?_ _) | (with_reducible refine RowIn.drewN ?_ _) | (with_reducible refine below_drewN ?_ _) | (with_reducible refine Blk.drew ?_) | (with_reducible refine RowIn.drew ?_) | (with_reducible refine Below.drew ?_) | (with_reducible refine Blk.new' ?_ ?_ <;> first | (with_reducible rfl) | (simp; done)) | (with_reducible refine Blk.alloc ?_ _) | (with_reducible refine RowIn.alloc ?_ _) | (with_reducible refine Below.alloc ?_ ?_ _) | (with_reducible apply Blk.set') | (with_reducible apply Blk.far') | (with_reducible refine RowIn.far' ?_ ?_ _) | (with_reducible refine Below.far' ?_ ?_ _) | (with_reducible refine Blk.after ?_ b9) | (with_reducible refine RowIn.belowS ?_ b9) | (with_reducible refine Below.after ?_ b9 ?_) | rfl | omega | go_size)
    clear zb_8 zf_8 zs_8 rl_8 rt_8 rb_8 rf_8 bb_8 kb_8 fb_8 lb_8 kf_8 ff_8 lf_8 ks_8 fs_8 ls_8 b9
    go_wp2
    go_ret
    refine ⟨rfl, ?_⟩
    repeat' (first | (with_reducible assumption) | (with_reducible exact Below.refl _ _) | (with_reducible refine Blk.drewN ?_ _) | (with_reducible refine RowIn.drewN ?_ _) | (with_reducible refine below_drewN ?_ _) | (with_reducible refine Blk.drew ?_) | (with_reducible refine RowIn.drew ?_) | (with_reducible refine Below.drew ?_) | (with_reducible refine Blk.new' ?_ ?_ <;> first | (with_reducible rfl) | (simp; done)) | (with_reducible refine Blk.alloc ?_ _) | (with_reducible refine RowIn.alloc ?_ _) | (with_reducible refine Below.alloc ?_ ?_ _) | (with_reducible apply Blk.set') | (with_reducible apply Blk.far') | (with_reducible refine RowIn.far' ?_ ?_ _) | (with_reducible refine Below.far' ?_ ?_ _) | rfl | omega | go_size)
  · have t6 : decide ((8 : Int) ≤ 8 * (mb : Int) - ((xf.length : Nat) : Int)) = false := decide_eq_false (by omega)
    obtain ⟨s0, s1, t0, tz, hs⟩ := Dual.four (afterL Cad.Code.start (pre xsl n))
    have hfe : feed n ⟨10, 10, 16384, 16384⟩ ([] ++ unpack (pack xb)) = .ok (pre xsl n) 0 ⟨s0, s1, t0, tz⟩ rr := by rw [List.nil_append]; have h := HFC.out; rw [if_neg (by omega), hs] at h; exact h
    have HFE := Lib.hid hfe
    clear hfe HFC hs
    refine (rfeed_c n 10 10 16384 16384 0 0 none [] Ab mb cb (pack xb) _ (by omega) (fok10 (by omega)) Row.nil ⟨Nat.le_refl _, Nat.zero_le _⟩ (by exact RowIn.row (lo := w.heap.size + 0) (hi := w1.heap.size) (by repeat' (first | (with_reducible assumption) | (with_reducible exact Below.refl _ _) | (with_reducible refine Blk.drewN ?_ _) | (with_reducible refine RowIn.drewN ?_ _) | (with_reducible refine below_drewN ?_ _) | (with_reducible refine Blk.drew ?_) | (with_reducible refine RowIn.drew ?_) | (with_reducible refine Below.drew ?_) | (with_reducible refine Blk.new' ?_ ?_ <;> first | (with_reducible rfl) | (simp; done)) | (with_reducible refine Blk.alloc ?_ _) | (with_reducible refine RowIn.alloc ?_ _) | (with_reducible refine Below.alloc ?_ ?_ _) | (with_reducible apply Blk.set') | (with_reducible apply Blk.far') | (with_reducible refine RowIn.far' ?_ ?_ _) | (with_reducible refine Below.far' ?_ ?_ _) | rfl | omega | go_size))) hcb (pack_u8 _) (by exact RowIn.row (lo := 0) (hi := w.heap.size) (by repeat' (first | (with_reducible assumption) | (with_reducible exact Below.refl _ _) | (with_reducible refine Blk.drewN ?_ _) | (with_reducible refine RowIn.drewN ?_ _) | (with_reducible refine below_drewN ?_ _) | (with_reducible refine Blk.drew ?_) | (with_reducible refine RowIn.drew ?_) | (with_reducible refine Below.drew ?_) | (with_reducible refine Blk.new' ?_ ?_ <;> first | (with_reducible rfl) | (simp; done)) | (with_reducible refine Blk.alloc ?_ _) | (with_reducible refine RowIn.alloc ?_ _) | (with_reducible refine Below.alloc ?_ ?_ _) | (with_reducible apply Blk.set') | (with_reducible apply Blk.far') | (with_reducible refine RowIn.far' ?_ ?_ _) | (with_reducible refine Below.far' ?_ ?_ _) | rfl | omega | go_size))) (by omega) HFE.out).mono ?_
    rintro e w8 ⟨my, cy, ky, dy, Ay, By, xy, zy, rfl, hcy, HXy, ry, hdy, HZy, rly, b8⟩
    have lny := rly.len
    replace ry := ry.mono (lo' := w7.heap.size + 1) (by go_size) (Nat.le_refl _)
    replace rly := rly.mono (lo' := w7.heap.size + 1) (by go_size) (Nat.le_refl _)
    have s8 := b8.size
    try simp only [World.size_alloc, World.size_setCell, World.size_drew, size_drewN] at s8
    obtain ⟨zb_8, zf_8, zs_8, rl_8, rt_8, rb_8, rf_8, ry_8, rly_8, bb_8⟩ : Blk w8 (w1.heap.size) 24 [.slice Ab mb cb, .int .i64 ((xb.length : Nat) : Int)] ∧ Blk w8 (w6.heap.size) 24 [.slice Af mf cf, .int .i64 ((xf.length : Nat) : Int)] ∧ Blk w8 (w7.heap.size) 40 [.int .i64 (n : Int), .int .i64 10, .int .i64 10, .int .u64 16384, .int .u64 16384, .slice none 0 0, .int .i64 0] ∧ RowIn .u32 w8 (0) (w.heap.size) Al nl xsl ∧ RowIn .u8 w8 (0) (w.heap.size) (some ⟨0, 0, none⟩) 64 dbTab ∧ RowIn .u8 w8 (w.heap.size + 0) (w1.heap.size) Ab mb (pack xb) ∧ RowIn .u8 w8 (w5.heap.size + 0) (w6.heap.size) Af mf (pack xf) ∧ RowIn .u8 w8 (w7.heap.size + 1) (w8.heap.size) Ay my (pack xy) ∧ RowIn .u32 w8 (w7.heap.size + 1) (w8.heap.size) By ky zy ∧ Below w.heap.size w w8 := by
      refine ⟨?_, ?_, ?_, ?_, ?_, ?_, ?_, ?_, ?_, ?_⟩
      all_goals repeat' (first | (with_reducible assumption) | (with_reducible exact Below.refl _ _) | (with_reducible refine Blk.drewN ?_ _) | (with_reducible refine RowIn.drewN ?_ _) | (with_reducible refine below_drewN ?_ _) | (with_reducible refine Blk.drew ?_) | (with_reducible refine RowIn.drew ?_) | (with_reducible refine Below.drew ?_) | (with_reducible refine Blk.new' ?_ ?_ <;> first | (with_reducible rfl) | (simp; done)) | (with_reducible refine Blk.alloc ?_ _) | (with_reducible refine RowIn.alloc ?_ _) | (with_reducible refine Below.alloc ?_ ?_ _) | (with_reducible apply Blk.set') | (with_reducible apply Blk.far') | (with_reducible refine RowIn.far' ?_ ?_ _) | (with_reducible refine Below.far' ?_ ?_ _) | (with_reducible refine Blk.after ?_ b8) | (with_reducible refine RowIn.belowS ?_ b8) | (with_reducible refine Below.after ?_ b8 ?_) | rfl | omega | go_size)
    clear zb_7 zf_7 rl_7 rt_7 rb_7 rf_7 bb_7 kb_7 fb_7 lb_7 kf_7 ff_7 lf_7 b8
    have kb_8 := zb_8.cell; have fb_8 := zb_8.frozen; have lb_8 := zb_8.lt
    have kf_8 := zf_8.cell; have ff_8 := zf_8.frozen; have lf_8 := zf_8.lt
    have ks_8 := zs_8.cell; have fs_8 := zs_8.frozen; have ls_8 := zs_8.lt
    clear ry rly
    have HE2 : Hid (zy = xsl.take n) := Lib.hid (by rw [HZy.out, ← pre_row xsl (Nat.le_refl n)]; exact ints_pre (within_take2 hxl n) (by rw [List.length_take, HLl.out]; omega))
    have hky : ky ≤ n ∧ n ≤ ky := by rw [← lny, HE2.out, List.length_take, HLl.out]; omega
    obtain ⟨hky1, hky2⟩ := hky
    have hy8 : xy.length = 8 * mb - xf.length := by rw [HXy.out]; omega
    have t7 : (((xy.length : Nat) : Int) == 8 * (mb : Int) - ((xf.length : Nat) : Int)) = true := beq_iff_eq.2 (by omega)
    clear hy8
    go_wp2_with fail
    refine (r9same_eq By _ ky dy n cl zy (xsl.take n) _ (by exact RowIn.row (lo := w7.heap.size + 1) (hi := w8.heap.size) (by repeat' (first | (with_reducible assumption) | (with_reducible exact Below.refl _ _) | (with_reducible refine Blk.drewN ?_ _) | (with_reducible refine RowIn.drewN ?_ _) | (with_reducible refine below_drewN ?_ _) | (with_reducible refine Blk.drew ?_) | (with_reducible refine RowIn.drew ?_) | (with_reducible refine Below.drew ?_) | (with_reducible refine Blk.new' ?_ ?_ <;> first | (with_reducible rfl) | (simp; done)) | (with_reducible refine Blk.alloc ?_ _) | (with_reducible refine RowIn.alloc ?_ _) | (with_reducible refine Below.alloc ?_ ?_ _) | (with_reducible apply Blk.set') | (with_reducible apply Blk.far') | (with_reducible refine RowIn.far' ?_ ?_ _) | (with_reducible refine Below.far' ?_ ?_ _) | rfl | omega | go_size))) (by exact (part_row2 (show RowIn .u32 _ 0 w.heap.size Al nl xsl by repeat' (first | (with_reducible assumption) | (with_reducible exact Below.refl _ _) | (with_reducible refine Blk.drewN ?_ _) | (with_reducible refine RowIn.drewN ?_ _) | (with_reducible refine below_drewN ?_ _) | (with_reducible refine Blk.drew ?_) | (with_reducible refine RowIn.drew ?_) | (with_reducible refine Below.drew ?_) | (with_reducible refine Blk.new' ?_ ?_ <;> first | (with_reducible rfl) | (simp; done)) | (with_reducible refine Blk.alloc ?_ _) | (with_reducible refine RowIn.alloc ?_ _) | (with_reducible refine Below.alloc ?_ ?_ _) | (with_reducible apply Blk.set') | (with_reducible apply Blk.far') | (with_reducible refine RowIn.far' ?_ ?_ _) | (with_reducible refine Below.far' ?_ ?_ _) | rfl | omega | go_size)) hpn).row) (by omega) HE2.out).mono ?_
    rintro e w9 ⟨rfl, b9⟩
    have s9 := b9.size
    try simp only [World.size_alloc, World.size_setCell, World.size_drew, size_drewN] at s9
    obtain ⟨zb_9, zf_9, zs_9, zy_9, rl_9, rt_9, rb_9, rf_9, ry_9, rly_9, bb_9⟩ : Blk w9 (w1.heap.size) 24 [.slice Ab mb cb, .int .i64 ((xb.length : Nat) : Int)] ∧ Blk w9 (w6.heap.size) 24 [.slice Af mf cf, .int .i64 ((xf.length : Nat) : Int)] ∧ Blk w9 (w7.heap.size) 40 [.int .i64 (n : Int), .int .i64 10, .int .i64 10, .int .u64 16384, .int .u64 16384, .slice none 0 0, .int .i64 0] ∧ Blk w9 (w8.heap.size) 40 [.int .i64 0, .int .i64 (s0 : Int), .int .i64 (s1 : Int), .int .u64 (t0 : Int), .int .u64 (tz : Int), .slice Ay my cy, .int .i64 (((xy.length : Nat)) : Int)] ∧ RowIn .u32 w9 (0) (w.heap.size) Al nl xsl ∧ RowIn .u8 w9 (0) (w.heap.size) (some ⟨0, 0, none⟩) 64 dbTab ∧ RowIn .u8 w9 (w.heap.size + 0) (w1.heap.size) Ab mb (pack xb) ∧ RowIn .u8 w9 (w5.heap.size + 0) (w6.heap.size) Af mf (pack xf) ∧ RowIn .u8 w9 (w7.heap.size + 1) (w8.heap.size) Ay my (pack xy) ∧ RowIn .u32 w9 (w7.heap.size + 1) (w8.heap.size) By ky zy ∧ Below w.heap.size w w9 := by
      refine ⟨?_, ?_, ?_, ?_, ?_, ?_, ?_, ?_, ?_, ?_, ?_⟩
      all_goals repeat' (first | (with_reducible assumption) | (with_reducible exact Below.refl _ _) | (with_reducible refine Blk.drewN ?_ _) | (with_reducible refine RowIn.drewN ?_ _) | (with_reducible refine below_drewN ?_ _) | (with_reducible refine Blk.drew ?_) | (with_reducible refine RowIn.drew ?_) | (with_reducible refine Below.drew ?_) | (with_reducible refine Blk.new' ?_ ?_ <;> first | (with_reducible rfl) | (simp; done)) | (with_reducible refine Blk.alloc ?_ _) | (with_reducible refine RowIn.alloc ?_ _) | (with_reducible refine Below.alloc ?_ ?_ _) | (with_reducible apply Blk.set') | (with_reducible apply Blk.far') | (with_reducible refine RowIn.far' ?_ ?_ _) | (with_reducible refine Below.far' ?_ ?_ _) | (with_reducible refine Blk.after ?_ b9) | (with_reducible refine RowIn.belowS ?_ b9) | (with_reducible refine Below.after ?_ b9 ?_) | rfl | omega | go_size)
    clear zb_8 zf_8 zs_8 rl_8 rt_8 rb_8 rf_8 ry_8 rly_8 bb_8 kb_8 fb_8 lb_8 kf_8 ff_8 lf_8 ks_8 fs_8 ls_8 b9
    have kb_9 := zb_9.cell; have fb_9 := zb_9.frozen; have lb_9 := zb_9.lt
    have kf_9 := zf_9.cell; have ff_9 := zf_9.frozen; have lf_9 := zf_9.lt
    have ks_9 := zs_9.cell; have fs_9 := zs_9.frozen; have ls_9 := zs_9.lt
    have ky_9 := zy_9.cell; have fy_9 := zy_9.frozen; have ly_9 := zy_9.lt
    go_wp2_with fail
    go_wp2_with fail
    refine (alive10 _ (by exact RowIn.row (lo := 0) (hi := w.heap.size) (by repeat' (first | (with_reducible assumption) | (with_reducible exact Below.refl _ _) | (with_reducible refine Blk.drewN ?_ _) | (with_reducible refine RowIn.drewN ?_ _) | (with_reducible refine below_drewN ?_ _) | (with_reducible refine Blk.drew ?_) | (with_reducible refine RowIn.drew ?_) | (with_reducible refine Below.drew ?_) | (with_reducible refine Blk.new' ?_ ?_ <;> first | (with_reducible rfl) | (simp; done)) | (with_reducible refine Blk.alloc ?_ _) | (with_reducible refine RowIn.alloc ?_ _) | (with_reducible refine Below.alloc ?_ ?_ _) | (with_reducible apply Blk.set') | (with_reducible apply Blk.far') | (with_reducible refine RowIn.far' ?_ ?_ _) | (with_reducible refine Below.far' ?_ ?_ _) | rfl | omega | go_size)))).mono ?_
    rintro e w10 ⟨rfl, b10⟩
    have s10 := b10.size
    try simp only [World.size_alloc, World.size_setCell, World.size_drew, size_drewN] at s10
    have bb_10 : Below w.heap.size w w10 := by
      repeat' (first | (with_reducible assumption) | (with_reducible exact Below.refl _ _) | (with_reducible refine Blk.drewN ?_ _) | (with_reducible refine RowIn.drewN ?_ _) | (with_reducible refine below_drewN ?_ _) | (with_reducible refine Blk.drew ?_) | (with_reducible refine RowIn.drew ?_) | (with_reducible refine Below.drew ?_) | (with_reducible refine Blk.new' ?_ ?_ <;> first | (with_reducible rfl) | (simp; done)) | (with_reducible refine Blk.alloc ?_ _) | (with_reducible refine RowIn.alloc ?_ _) | (with_reducible refine Below.alloc ?_ ?_ _) | (with_reducible apply Blk.set') | (with_reducible apply Blk.far') | (with_reducible refine RowIn.far' ?_ ?_ _) | (with_reducible refine Below.far' ?_ ?_ _) | (with_reducible refine Blk.after ?_ b10) | (with_reducible refine RowIn.belowS ?_ b10) | (with_reducible refine Below.after ?_ b10 ?_) | rfl | omega | go_size)
    clear zb_9 zf_9 zs_9 zy_9 rl_9 rt_9 rb_9 rf_9 ry_9 rly_9 bb_9 kb_9 fb_9 lb_9 kf_9 ff_9 lf_9 ks_9 fs_9 ls_9 ky_9 fy_9 ly_9 b10
    go_wp2
    go_ret
    refine ⟨rfl, ?_⟩
    repeat' (first | (with_reducible assumption) | (with_reducible exact Below.refl _ _) | (with_reducible refine Blk.drewN ?_ _) | (with_reducible refine RowIn.drewN ?_ _) | (with_reducible refine below_drewN ?_ _) | (with_reducible refine Blk.drew ?_) | (with_reducible refine RowIn.drew ?_) | (with_reducible refine Below.drew ?_) | (with_reducible refine Blk.new' ?_ ?_ <;> first | (with_reducible rfl) | (simp; done)) | (with_reducible refine Blk.alloc ?_ _) | (with_reducible refine RowIn.alloc ?_ _) | (with_reducible refine Below.alloc ?_ ?_ _) | (with_reducible apply Blk.set') | (with_reducible apply Blk.far') | (with_reducible refine RowIn.far' ?_ ?_ _) | (with_reducible refine Below.far' ?_ ?_ _) | rfl | omega | go_size)


end Go.Proofs.YtppilidcjlnmoaaDoor

