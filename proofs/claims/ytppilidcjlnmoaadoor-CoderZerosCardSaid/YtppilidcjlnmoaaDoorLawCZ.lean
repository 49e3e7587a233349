/-
  The walk of CoderZeros.
-/
import Derived.Test.YtppilidcjlnmoaaDoorCodM
namespace Go.Proofs.YtppilidcjlnmoaaDoor
open Go.RowKit Cad Cad.Bit Cad.Code
set_option linter.unusedVariables false
set_option linter.unusedSimpArgs false


theorem pre_zeros (n : Nat) : pre (zeros n) n = List.replicate n 0 := by
  apply List.ext_getElem
  · rw [pre_len, List.length_replicate]
  · intro i h1 h2
    rw [getElem_pre, nth_zeros, List.getElem_replicate]; rfl
theorem pre_app (xs ys : List Int) {n : Nat} (hn : xs.length = n) (m : Nat) : pre (xs ++ ys) (n + m) = pre xs n ++ pre ys m := by
  apply List.ext_getElem
  · rw [List.length_append, pre_len, pre_len, pre_len]
  · intro i h1 h2
    rw [getElem_pre]
    by_cases h : i < n
    · rw [List.getElem_append_left (by rw [pre_len]; exact h), getElem_pre, nth_append_left (by omega)]
    · rw [List.getElem_append_right (by rw [pre_len]; omega), getElem_pre, nth_append_right (by omega), hn]; simp only [pre_len]
theorem zeros_w (n : Nat) : Within 0 4294967295 (zeros n) := by
  intro x hx
  unfold zeros at hx
  rw [List.mem_replicate] at hx
  omega
theorem zeros_snoc (n : Nat) : zeros n ++ [0] = zeros (n + 1) := by unfold zeros; rw [List.replicate_succ']
theorem row_mk {k : IntKind} {w : World} {n : Nat} {e : TypeId} {g : Nat} (hg : g = w.heap.size) : Row k (w.alloc (.cells (zeroRow k n) e)) (some ⟨g, 0, none⟩) n (zeros n) := by
  subst hg
  have h := row_new k w (zeros n) e
  rw [zeros_len] at h
  exact h


set_option maxRecDepth 100000 in
set_option maxHeartbeats 8000000 in
theorem lawCoderZeros (w : World) (ht : Tab w) (Al : Option Addr) (nl cl : Nat) (xsl : List Int) (hAl : RowC .u32 w Al nl cl xsl) (hxl : Within 0 4294967295 xsl) (z : Int) (hz : -9223372036854775808 ≤ z ∧ z ≤ 9223372036854775807) :
    Calls Tryd.prog 14 #[.slice Al nl cl, .int .i64 z] w fun e w' => e = .returned (.bool true) ∧ Below w.heap.size w w' := by
  have hal := hAl.row
  have hcl := hAl.2
  have hril := hal.rowIn
  have HLl := Lib.hid hal.len
  have hti : RowIn .u8 w 0 w.heap.size (some ⟨0, 0, none⟩) 64 dbTab := ht.rowIn
  by_cases h0 : 100 < nl
  · have t0 : decide ((100 : Int) < (nl : Int)) = true := decide_eq_true (by omega)
    go_enter Tryd.func14, Tryd.ntmps14
    go_wp2_with fail
    refine (alive09 _ (by exact RowIn.row (lo := 0) (hi := w.heap.size) (by repeat' (first | (with_reducible assumption) | (with_reducible exact Below.refl _ _) | (with_reducible refine Blk.drewN ?_ _) | (with_reducible refine RowIn.drewN ?_ _) | (with_reducible refine below_drewN ?_ _) | (with_reducible refine Blk.drew ?_) | (with_reducible refine RowIn.drew ?_) | (with_reducible refine Below.drew ?_) | (with_reducible refine Blk.new' ?_ ?_ <;> first | (with_reducible rfl) | (simp; done)) | (with_reducible refine Blk.alloc ?_ _) | (with_reducible refine RowIn.alloc ?_ _) | (with_reducible refine Below.alloc ?_ ?_ _) | (with_reducible apply Blk.set') | (with_reducible apply Blk.far') | (with_reducible refine RowIn.far' ?_ ?_ _) | (with_reducible refine Below.far' ?_ ?_ _) | rfl | omega | go_size)))).mono ?_
    rintro e w1 ⟨rfl, b1⟩
    have s1 := b1.size
    try simp only [World.size_alloc, World.size_setCell, World.size_drew, size_drewN] at s1
    have bb_1 : Below w.heap.size w w1 := by
      repeat' (first | (with_reducible assumption) | (with_reducible exact Below.refl _ _) | (with_reducible refine Blk.drewN ?_ _) | (with_reducible refine RowIn.drewN ?_ _) | (with_reducible refine below_drewN ?_ _) | (with_reducible refine Blk.drew ?_) | (with_reducible refine RowIn.drew ?_) | (with_reducible refine Below.drew ?_) | (with_reducible refine Blk.new' ?_ ?_ <;> first | (with_reducible rfl) | (simp; done)) | (with_reducible refine Blk.alloc ?_ _) | (with_reducible refine RowIn.alloc ?_ _) | (with_reducible refine Below.alloc ?_ ?_ _) | (with_reducible apply Blk.set') | (with_reducible apply Blk.far') | (with_reducible refine RowIn.far' ?_ ?_ _) | (with_reducible refine Below.far' ?_ ?_ _) | (with_reducible refine Blk.after ?_ b1) | (with_reducible refine RowIn.belowS ?_ b1) | (with_reducible refine Below.after ?_ b1 ?_) | rfl | omega | go_size)
    clear b1
    go_wp2
    go_ret
    refine ⟨rfl, ?_⟩
    repeat' (first | (with_reducible assumption) | (with_reducible exact Below.refl _ _) | (with_reducible refine Blk.drewN ?_ _) | (with_reducible refine RowIn.drewN ?_ _) | (with_reducible refine below_drewN ?_ _) | (with_reducible refine Blk.drew ?_) | (with_reducible refine RowIn.drew ?_) | (with_reducible refine Below.drew ?_) | (with_reducible refine Blk.new' ?_ ?_ <;> first | (with_reducible rfl) | (simp; done)) | (with_reducible refine Blk.alloc ?_ _) | (with_reducible refine RowIn.alloc ?_ _) | (with_reducible refine Below.alloc ?_ ?_ _) | (with_reducible apply Blk.set') | (with_reducible apply Blk.far') | (with_reducible refine RowIn.far' ?_ ?_ _) | (with_reducible refine Below.far' ?_ ?_ _) | rfl | omega | go_size)
  have t0 : decide ((100 : Int) < (nl : Int)) = false := decide_eq_false (by omega)
  by_cases h1 : z < 0
  · go_enter Tryd.func14, Tryd.ntmps14
    go_wp2_with fail
    refine (alive09 _ (by exact RowIn.row (lo := 0) (hi := w.heap.size) (by repeat' (first | (with_reducible assumption) | (with_reducible exact Below.refl _ _) | (with_reducible refine Blk.drewN ?_ _) | (with_reducible refine RowIn.drewN ?_ _) | (with_reducible refine below_drewN ?_ _) | (with_reducible refine Blk.drew ?_) | (with_reducible refine RowIn.drew ?_) | (with_reducible refine Below.drew ?_) | (with_reducible refine Blk.new' ?_ ?_ <;> first | (with_reducible rfl) | (simp; done)) | (with_reducible refine Blk.alloc ?_ _) | (with_reducible refine RowIn.alloc ?_ _) | (with_reducible refine Below.alloc ?_ ?_ _) | (with_reducible apply Blk.set') | (with_reducible apply Blk.far') | (with_reducible refine RowIn.far' ?_ ?_ _) | (with_reducible refine Below.far' ?_ ?_ _) | rfl | omega | go_size)))).mono ?_
    rintro e w1 ⟨rfl, b1⟩
    have s1 := b1.size
    try simp only [World.size_alloc, World.size_setCell, World.size_drew, size_drewN] at s1
    have bb_1 : Below w.heap.size w w1 := by
      repeat' (first | (with_reducible assumption) | (with_reducible exact Below.refl _ _) | (with_reducible refine Blk.drewN ?_ _) | (with_reducible refine RowIn.drewN ?_ _) | (with_reducible refine below_drewN ?_ _) | (with_reducible refine Blk.drew ?_) | (with_reducible refine RowIn.drew ?_) | (with_reducible refine Below.drew ?_) | (with_reducible refine Blk.new' ?_ ?_ <;> first | (with_reducible rfl) | (simp; done)) | (with_reducible refine Blk.alloc ?_ _) | (with_reducible refine RowIn.alloc ?_ _) | (with_reducible refine Below.alloc ?_ ?_ _) | (with_reducible apply Blk.set') | (with_reducible apply Blk.far') | (with_reducible refine RowIn.far' ?_ ?_ _) | (with_reducible refine Below.far' ?_ ?_ _) | (with_reducible refine Blk.after ?_ b1) | (with_reducible refine RowIn.belowS ?_ b1) | (with_reducible refine Below.after ?_ b1 ?_) | rfl | omega | go_size)
    clear b1
    go_wp2
    go_ret
    refine ⟨rfl, ?_⟩
    repeat' (first | (with_reducible assumption) | (with_reducible exact Below.refl _ _) | (with_reducible refine Blk.drewN ?_ _) | (with_reducible refine RowIn.drewN ?_ _) | (with_reducible refine below_drewN ?_ _) | (with_reducible refine Blk.drew ?_) | (with_reducible refine RowIn.drew ?_) | (with_reducible refine Below.drew ?_) | (with_reducible refine Blk.new' ?_ ?_ <;> first | (with_reducible rfl) | (simp; done)) | (with_reducible refine Blk.alloc ?_ _) | (with_reducible refine RowIn.alloc ?_ _) | (with_reducible refine Below.alloc ?_ ?_ _) | (with_reducible apply Blk.set') | (with_reducible apply Blk.far') | (with_reducible refine RowIn.far' ?_ ?_ _) | (with_reducible refine Below.far' ?_ ?_ _) | rfl | omega | go_size)
  by_cases h2 : 500 < z
  · go_enter Tryd.func14, Tryd.ntmps14
    go_wp2_with fail
    refine (alive09 _ (by exact RowIn.row (lo := 0) (hi := w.heap.size) (by repeat' (first | (with_reducible assumption) | (with_reducible exact Below.refl _ _) | (with_reducible refine Blk.drewN ?_ _) | (with_reducible refine RowIn.drewN ?_ _) | (with_reducible refine below_drewN ?_ _) | (with_reducible refine Blk.drew ?_) | (with_reducible refine RowIn.drew ?_) | (with_reducible refine Below.drew ?_) | (with_reducible refine Blk.new' ?_ ?_ <;> first | (with_reducible rfl) | (simp; done)) | (with_reducible refine Blk.alloc ?_ _) | (with_reducible refine RowIn.alloc ?_ _) | (with_reducible refine Below.alloc ?_ ?_ _) | (with_reducible apply Blk.set') | (with_reducible apply Blk.far') | (with_reducible refine RowIn.far' ?_ ?_ _) | (with_reducible refine Below.far' ?_ ?_ _) | rfl | omega | go_size)))).mono ?_
    rintro e w1 ⟨rfl, b1⟩
    have s1 := b1.size
    try simp only [World.size_alloc, World.size_setCell, World.size_drew, size_drewN] at s1
    have bb_1 : Below w.heap.size w w1 := by
      repeat' (first | (with_reducible assumption) | (with_reducible exact Below.refl _ _) | (with_reducible refine Blk.drewN ?_ _) | (with_reducible refine RowIn.drewN ?_ _) | (with_reducible refine below_drewN ?_ _) | (with_reducible refine Blk.drew ?_) | (with_reducible refine RowIn.drew ?_) | (with_reducible refine Below.drew ?_) | (with_reducible refine Blk.new' ?_ ?_ <;> first | (with_reducible rfl) | (simp; done)) | (with_reducible refine Blk.alloc ?_ _) | (with_reducible refine RowIn.alloc ?_ _) | (with_reducible refine Below.alloc ?_ ?_ _) | (with_reducible apply Blk.set') | (with_reducible apply Blk.far') | (with_reducible refine RowIn.far' ?_ ?_ _) | (with_reducible refine Below.far' ?_ ?_ _) | (with_reducible refine Blk.after ?_ b1) | (with_reducible refine RowIn.belowS ?_ b1) | (with_reducible refine Below.after ?_ b1 ?_) | rfl | omega | go_size)
    clear b1
    go_wp2
    go_ret
    refine ⟨rfl, ?_⟩
    repeat' (first | (with_reducible assumption) | (with_reducible exact Below.refl _ _) | (with_reducible refine Blk.drewN ?_ _) | (with_reducible refine RowIn.drewN ?_ _) | (with_reducible refine below_drewN ?_ _) | (with_reducible refine Blk.drew ?_) | (with_reducible refine RowIn.drew ?_) | (with_reducible refine Below.drew ?_) | (with_reducible refine Blk.new' ?_ ?_ <;> first | (with_reducible rfl) | (simp; done)) | (with_reducible refine Blk.alloc ?_ _) | (with_reducible refine RowIn.alloc ?_ _) | (with_reducible refine Below.alloc ?_ ?_ _) | (with_reducible apply Blk.set') | (with_reducible apply Blk.far') | (with_reducible refine RowIn.far' ?_ ?_ _) | (with_reducible refine Below.far' ?_ ?_ _) | rfl | omega | go_size)
  obtain ⟨z, rfl⟩ := Int.eq_ofNat_of_zero_le (by omega : 0 ≤ z)
  have t1 : decide ((z : Int) < 0) = false := decide_eq_false (by omega)
  have t2 : decide ((500 : Int) < (z : Int)) = false := decide_eq_false (by omega)
  have hz5 : z ≤ 500 := by omega
  have hmk : ∀ W, (Instr.makeSlice 27 (.int .i64 (z : Int)) (.int .i64 (z : Int))).run Tryd.prog W = .ok (.slice (some ⟨W.heap.size, 0, none⟩) z z) (W.alloc (.cells (zeroRow .u32 z) 55)) := fun W => run_mk u32E z (by omega) .i64 .i64 W
  clear h1 h2
  go_enter Tryd.func14, Tryd.ntmps14
  go_wp2_with fail
  refine (cenc_ok _ z z (zeros z) _ (by exact row_mk (by simp)) (zeros_w z) (by omega)).mono ?_
  rintro e w1 ⟨Ab, mb, cb, xb, rfl, hcb, rb, HXb, b1⟩
  replace rb := rb.mono (lo' := w.heap.size + 0) (by go_size) (Nat.le_refl _)
  have s1 := b1.size
  try simp only [World.size_alloc, World.size_setCell, World.size_drew, size_drewN] at s1
  obtain ⟨rl_1, rt_1, rb_1, bb_1⟩ : RowIn .u32 w1 (0) (w.heap.size) Al nl xsl ∧ RowIn .u8 w1 (0) (w.heap.size) (some ⟨0, 0, none⟩) 64 dbTab ∧ RowIn .u8 w1 (w.heap.size + 0) (w1.heap.size) Ab mb (pack xb) ∧ Below w.heap.size w w1 := by
    refine ⟨?_, ?_, ?_, ?_⟩
    all_goals repeat' (first | (with_reducible assumption) | (with_reducible exact Below.refl _ _) | (with_reducible refine Blk.drewN ?_ _) | (with_reducible refine RowIn.drewN ?_ _) | (with_reducible refine below_drewN ?_ _) | (with_reducible refine Blk.drew ?_) | (with_reducible refine RowIn.drew ?_) | (with_reducible refine Below.drew ?_) | (with_reducible refine Blk.new' ?_ ?_ <;> first | (with_reducible rfl) | (simp; done)) | (with_reducible refine Blk.alloc ?_ _) | (with_reducible refine RowIn.alloc ?_ _) | (with_reducible refine Below.alloc ?_ ?_ _) | (with_reducible apply Blk.set') | (with_reducible apply Blk.far') | (with_reducible refine RowIn.far' ?_ ?_ _) | (with_reducible refine Below.far' ?_ ?_ _) | (with_reducible refine Blk.after ?_ b1) | (with_reducible refine RowIn.belowS ?_ b1) | (with_reducible refine Below.after ?_ b1 ?_) | rfl | omega | go_size)
  clear b1
  clear rb
  have hbl : xb.length ≤ 11 * z := by rw [HXb.out]; unfold codeP; rw [pre_zeros]; exact zeros_code z
  have t3 : decide (11 * (z : Int) < ((xb.length : Nat) : Int)) = false := decide_eq_false (by omega)
  clear hmk
  go_wp2_with fail
  refine (cafter_ok Al nl cl xsl _ (by exact RowIn.row (lo := 0) (hi := w.heap.size) (by repeat' (first | (with_reducible assumption) | (with_reducible exact Below.refl _ _) | (with_reducible refine Blk.drewN ?_ _) | (with_reducible refine RowIn.drewN ?_ _) | (with_reducible refine below_drewN ?_ _) | (with_reducible refine Blk.drew ?_) | (with_reducible refine RowIn.drew ?_) | (with_reducible refine Below.drew ?_) | (with_reducible refine Blk.new' ?_ ?_ <;> first | (with_reducible rfl) | (simp; done)) | (with_reducible refine Blk.alloc ?_ _) | (with_reducible refine RowIn.alloc ?_ _) | (with_reducible refine Below.alloc ?_ ?_ _) | (with_reducible apply Blk.set') | (with_reducible apply Blk.far') | (with_reducible refine RowIn.far' ?_ ?_ _) | (with_reducible refine Below.far' ?_ ?_ _) | rfl | omega | go_size))) hxl (by omega)).mono ?_
  rintro e w2 ⟨u0, u1, v0, v1, rfl, HSx, b2⟩
  have s2 := b2.size
  try simp only [World.size_alloc, World.size_setCell, World.size_drew, size_drewN] at s2
  obtain ⟨zb_2, rl_2, rt_2, rb_2, bb_2⟩ : Blk w2 (w1.heap.size) 24 [.slice Ab mb cb, .int .i64 ((xb.length : Nat) : Int)] ∧ RowIn .u32 w2 (0) (w.heap.size) Al nl xsl ∧ RowIn .u8 w2 (0) (w.heap.size) (some ⟨0, 0, none⟩) 64 dbTab ∧ RowIn .u8 w2 (w.heap.size + 0) (w1.heap.size) Ab mb (pack xb) ∧ Below w.heap.size w w2 := by
    refine ⟨?_, ?_, ?_, ?_, ?_⟩
    all_goals repeat' (first | (with_reducible assumption) | (with_reducible exact Below.refl _ _) | (with_reducible refine Blk.drewN ?_ _) | (with_reducible refine RowIn.drewN ?_ _) | (with_reducible refine below_drewN ?_ _) | (with_reducible refine Blk.drew ?_) | (with_reducible refine RowIn.drew ?_) | (with_reducible refine Below.drew ?_) | (with_reducible refine Blk.new' ?_ ?_ <;> first | (with_reducible rfl) | (simp; done)) | (with_reducible refine Blk.alloc ?_ _) | (with_reducible refine RowIn.alloc ?_ _) | (with_reducible refine Below.alloc ?_ ?_ _) | (with_reducible apply Blk.set') | (with_reducible apply Blk.far') | (with_reducible refine RowIn.far' ?_ ?_ _) | (with_reducible refine Below.far' ?_ ?_ _) | (with_reducible refine Blk.after ?_ b2) | (with_reducible refine RowIn.belowS ?_ b2) | (with_reducible refine Below.after ?_ b2 ?_) | rfl | omega | go_size)
  clear rl_1 rt_1 rb_1 bb_1 b2
  have kb_2 := zb_2.cell; have fb_2 := zb_2.frozen; have lb_2 := zb_2.lt
  have rla := RowIn.row (RowIn.alloc rl_2 (.cells #[.int .i64 (u0 : Int), .int .i64 (u1 : Int), .int .u64 (v0 : Int), .int .u64 (v1 : Int)] 38))
  go_wp2_with (at_builtin; refine wpList_app _ u32E rfl _ _ rfl (w2.alloc (.cells #[.int .i64 (u0 : Int), .int .i64 (u1 : Int), .int .u64 (v0 : Int), .int .u64 (v1 : Int)] 38)).heap.size _ _ _ [] rfl (own_empty' (by simp) (Nat.le_refl _)) _ _ _ xsl rfl (by exact rla.alloc _) (by omega) (by simp) ?_)
  intro Ao co w3 own3 hg3 hat3
  try rw [Nat.zero_add, List.nil_append] at own3
  obtain ⟨wa, hwa⟩ : ∃ wa, wa = (w2.alloc (.cells #[.int .i64 (u0 : Int), .int .i64 (u1 : Int), .int .u64 (v0 : Int), .int .u64 (v1 : Int)] 38)) := ⟨_, rfl⟩
  obtain ⟨zb_a, zx_a, rl_a, rt_a, rb_a, bb_a⟩ : Blk wa (w1.heap.size) 24 [.slice Ab mb cb, .int .i64 ((xb.length : Nat) : Int)] ∧ Blk wa (w2.heap.size) 38 [.int .i64 (u0 : Int), .int .i64 (u1 : Int), .int .u64 (v0 : Int), .int .u64 (v1 : Int)] ∧ RowIn .u32 wa (0) (w.heap.size) Al nl xsl ∧ RowIn .u8 wa (0) (w.heap.size) (some ⟨0, 0, none⟩) 64 dbTab ∧ RowIn .u8 wa (w.heap.size + 0) (w1.heap.size) Ab mb (pack xb) ∧ Below w.heap.size w wa := by
    rw [hwa]
    refine ⟨?_, ?_, ?_, ?_, ?_, ?_⟩
    all_goals repeat' (first | (with_reducible assumption) | (with_reducible exact Below.refl _ _) | (with_reducible refine Blk.drewN ?_ _) | (with_reducible refine RowIn.drewN ?_ _) | (with_reducible refine below_drewN ?_ _) | (with_reducible refine Blk.drew ?_) | (with_reducible refine RowIn.drew ?_) | (with_reducible refine Below.drew ?_) | (with_reducible refine Blk.new' ?_ ?_ <;> first | (with_reducible rfl) | (simp; done)) | (with_reducible refine Blk.alloc ?_ _) | (with_reducible refine RowIn.alloc ?_ _) | (with_reducible refine Below.alloc ?_ ?_ _) | (with_reducible apply Blk.set') | (with_reducible apply Blk.far') | (with_reducible refine RowIn.far' ?_ ?_ _) | (with_reducible refine Below.far' ?_ ?_ _) | rfl | omega | go_size)
  have hsz : wa.heap.size = w2.heap.size + 1 := by rw [hwa]; simp
  rw [← hsz] at own3
  rw [← hwa] at hg3
  have b3 : Below wa.heap.size wa w3 := ((Below.refl _ _).alloc (Nat.le_refl _) _).grown hg3 (by simp) (fun g e => by simp [blockOf] at e; omega)
  have swa : w.heap.size ≤ wa.heap.size := bb_a.size
  clear hwa hsz rla hg3 hat3 zb_2 rl_2 rt_2 rb_2 bb_2 kb_2 fb_2 lb_2
  have s3 := b3.size
  try simp only [World.size_alloc, World.size_setCell, World.size_drew, size_drewN] at s3
  obtain ⟨zb_3, zx_3, rl_3, rt_3, rb_3, bb_3⟩ : Blk w3 (w1.heap.size) 24 [.slice Ab mb cb, .int .i64 ((xb.length : Nat) : Int)] ∧ Blk w3 (w2.heap.size) 38 [.int .i64 (u0 : Int), .int .i64 (u1 : Int), .int .u64 (v0 : Int), .int .u64 (v1 : Int)] ∧ RowIn .u32 w3 (0) (w.heap.size) Al nl xsl ∧ RowIn .u8 w3 (0) (w.heap.size) (some ⟨0, 0, none⟩) 64 dbTab ∧ RowIn .u8 w3 (w.heap.size + 0) (w1.heap.size) Ab mb (pack xb) ∧ Below w.heap.size w w3 := by
    refine ⟨?_, ?_, ?_, ?_, ?_, ?_⟩
    all_goals repeat' (first | (with_reducible assumption) | (with_reducible exact Below.refl _ _) | (with_reducible refine Blk.drewN ?_ _) | (with_reducible refine RowIn.drewN ?_ _) | (with_reducible refine below_drewN ?_ _) | (with_reducible refine Blk.drew ?_) | (with_reducible refine RowIn.drew ?_) | (with_reducible refine Below.drew ?_) | (with_reducible refine Blk.new' ?_ ?_ <;> first | (with_reducible rfl) | (simp; done)) | (with_reducible refine Blk.alloc ?_ _) | (with_reducible refine RowIn.alloc ?_ _) | (with_reducible refine Below.alloc ?_ ?_ _) | (with_reducible apply Blk.set') | (with_reducible apply Blk.far') | (with_reducible refine RowIn.far' ?_ ?_ _) | (with_reducible refine Below.far' ?_ ?_ _) | (with_reducible refine Blk.after ?_ b3) | (with_reducible refine RowIn.belowS ?_ b3) | (with_reducible refine Below.after ?_ b3 ?_) | rfl | omega | go_size)
  have kb_3 := zb_3.cell; have fb_3 := zb_3.frozen; have lb_3 := zb_3.lt
  have kx_3 := zx_3.cell; have fx_3 := zx_3.frozen; have lx_3 := zx_3.lt
  go_wp2_with fail
  go_loopg [9, 10] z (fun k va vi wr => ∃ (j d : Nat) (B : Option Addr), j + k = z ∧ vi = .int .i64 (j : Nat) ∧ va = .slice B (nl + j) d ∧ Own wr wa.heap.size 55 .u32 B (nl + j) d (xsl ++ zeros j) ∧ Below wa.heap.size wa wr)
  case atStart => exact ⟨0, co, Ao, by omega, rfl, rfl, by simpa [zeros] using own3, b3⟩
  case round =>
    obtain ⟨j, d, B, hj, rfl, rfl, ownr, b20⟩ := hrel
    have s20w := b20.size
    by_cases hlt : j < z
    · have hlt1 : (j : Int) < (z : Int) := by omega
      go_wp2_with (at_builtin; refine wpList_app _ u32E rfl _ _ rfl wa.heap.size _ _ _ _ rfl (by exact ownr.alloc _) _ _ _ [(0 : Int)] rfl (by exact row_one' rfl) (by omega) (by simp; omega) ?_)
      intro B' d' w8 own8 hg8 hat8
      have b8 : Below wa.heap.size wa w8 := (b20.alloc s20w _).grown hg8 (by simp; omega) (fun g e => (ownr.block g e).1)
      rw [zeros_snoc] at own8
      go_wp2
      go_roundg (z - (j + 1))
      case measure => omega
      case rel => exact ⟨j + 1, d', B', by omega, by go_num, rfl, own8, b8⟩
    · obtain rfl : j = z := by omega
      have s20 := b20.size
      try simp only [World.size_alloc, World.size_setCell, World.size_drew, size_drewN] at s20
      obtain ⟨zb_20, zx_20, rl_20, rt_20, rb_20, bb_20⟩ : Blk wr (w1.heap.size) 24 [.slice Ab mb cb, .int .i64 ((xb.length : Nat) : Int)] ∧ Blk wr (w2.heap.size) 38 [.int .i64 (u0 : Int), .int .i64 (u1 : Int), .int .u64 (v0 : Int), .int .u64 (v1 : Int)] ∧ RowIn .u32 wr (0) (w.heap.size) Al nl xsl ∧ RowIn .u8 wr (0) (w.heap.size) (some ⟨0, 0, none⟩) 64 dbTab ∧ RowIn .u8 wr (w.heap.size + 0) (w1.heap.size) Ab mb (pack xb) ∧ Below w.heap.size w wr := by
        refine ⟨?_, ?_, ?_, ?_, ?_, ?_⟩
        all_goals repeat' (first | (with_reducible assumption) | (with_reducible exact Below.refl _ _) | (with_reducible refine Blk.drewN ?_ _) | (with_reducible refine RowIn.drewN ?_ _) | (with_reducible refine below_drewN ?_ _) | (with_reducible refine Blk.drew ?_) | (with_reducible refine RowIn.drew ?_) | (with_reducible refine Below.drew ?_) | (with_reducible refine Blk.new' ?_ ?_ <;> first | (with_reducible rfl) | (simp; done)) | (with_reducible refine Blk.alloc ?_ _) | (with_reducible refine RowIn.alloc ?_ _) | (with_reducible refine Below.alloc ?_ ?_ _) | (with_reducible apply Blk.set') | (with_reducible apply Blk.far') | (with_reducible refine RowIn.far' ?_ ?_ _) | (with_reducible refine Below.far' ?_ ?_ _) | (with_reducible refine Blk.after ?_ b20) | (with_reducible refine RowIn.belowS ?_ b20) | (with_reducible refine Below.after ?_ b20 ?_) | rfl | omega | go_size)
      have kb_20 := zb_20.cell; have fb_20 := zb_20.frozen; have lb_20 := zb_20.lt
      have kx_20 := zx_20.cell; have fx_20 := zx_20.frozen; have lx_20 := zx_20.lt
      have rB := ownr.row
      have HST : Hid (stP Cad.Code.start (xsl ++ zeros j) (nl + j) = afterL (stP Cad.Code.start xsl nl) (List.replicate j 0)) := Lib.hid (by unfold stP; rw [pre_app xsl _ HLl.out, pre_zeros, afterL_append])
      have hst := after_zeros j (stP Cad.Code.start xsl nl)
      have hk0 := fun (h : 424 ≤ j) => zeros_k0 (stP_ok start_ok hxl nl) h
      have hdl := decN_le j (stP Cad.Code.start xsl nl).s0
      go_wp2_with fail
      refine (cafter_ok B (nl + j) d (xsl ++ zeros j) _ rB (hxl.append (zeros_w j)) (by omega)).mono ?_
      rintro e w21 ⟨s0, s1, t0, t1, rfl, HSy, b21⟩
      have s21 := b21.size
      try simp only [World.size_alloc, World.size_setCell, World.size_drew, size_drewN] at s21
      obtain ⟨zb_21, zx_21, rl_21, rt_21, rb_21, bb_21⟩ : Blk w21 (w1.heap.size) 24 [.slice Ab mb cb, .int .i64 ((xb.length : Nat) : Int)] ∧ Blk w21 (w2.heap.size) 38 [.int .i64 (u0 : Int), .int .i64 (u1 : Int), .int .u64 (v0 : Int), .int .u64 (v1 : Int)] ∧ RowIn .u32 w21 (0) (w.heap.size) Al nl xsl ∧ RowIn .u8 w21 (0) (w.heap.size) (some ⟨0, 0, none⟩) 64 dbTab ∧ RowIn .u8 w21 (w.heap.size + 0) (w1.heap.size) Ab mb (pack xb) ∧ Below w.heap.size w w21 := by
        refine ⟨?_, ?_, ?_, ?_, ?_, ?_⟩
        all_goals repeat' (first | (with_reducible assumption) | (with_reducible exact Below.refl _ _) | (with_reducible refine Blk.drewN ?_ _) | (with_reducible refine RowIn.drewN ?_ _) | (with_reducible refine below_drewN ?_ _) | (with_reducible refine Blk.drew ?_) | (with_reducible refine RowIn.drew ?_) | (with_reducible refine Below.drew ?_) | (with_reducible refine Blk.new' ?_ ?_ <;> first | (with_reducible rfl) | (simp; done)) | (with_reducible refine Blk.alloc ?_ _) | (with_reducible refine RowIn.alloc ?_ _) | (with_reducible refine Below.alloc ?_ ?_ _) | (with_reducible apply Blk.set') | (with_reducible apply Blk.far') | (with_reducible refine RowIn.far' ?_ ?_ _) | (with_reducible refine Below.far' ?_ ?_ _) | (with_reducible refine Blk.after ?_ b21) | (with_reducible refine RowIn.belowS ?_ b21) | (with_reducible refine Below.after ?_ b21 ?_) | rfl | omega | go_size)
      clear zb_20 zx_20 rl_20 rt_20 rb_20 bb_20 kb_20 fb_20 lb_20 kx_20 fx_20 lx_20 b21
      have kb_21 := zb_21.cell; have fb_21 := zb_21.frozen; have lb_21 := zb_21.lt
      have kx_21 := zx_21.cell; have fx_21 := zx_21.frozen; have lx_21 := zx_21.lt
      rw [HST.out] at HSy
      rw [← HSy.out, ← HSx.out] at hst
      rw [← HSy.out] at hk0
      rw [← HSx.out] at hdl
      dsimp only at hst hk0 hdl
      obtain ⟨g1, g2, g3⟩ := hst
      have g4 : t0 ≤ v0 := by rw [g3]; exact hdl
      clear g3 hdl HSx HSy HST
      obtain rfl : s1 = u1 := g1
      obtain rfl : t1 = v1 := g2
      have y1 : decide ((t0 : Int) ≤ (v0 : Int)) = true := decide_eq_true (by omega)
      have y2 : ((s1 : Int) == (s1 : Int)) = true := by simp
      have y3 : ((t1 : Int) == (t1 : Int)) = true := by simp
      by_cases h5 : j < 500
      · have y4 : decide ((j : Int) < 500) = true := decide_eq_true (by omega)
        go_wp2_with fail
        refine (alive09 _ (by exact RowIn.row (lo := 0) (hi := w.heap.size) (by repeat' (first | (with_reducible assumption) | (with_reducible exact Below.refl _ _) | (with_reducible refine Blk.drewN ?_ _) | (with_reducible refine RowIn.drewN ?_ _) | (with_reducible refine below_drewN ?_ _) | (with_reducible refine Blk.drew ?_) | (with_reducible refine RowIn.drew ?_) | (with_reducible refine Below.drew ?_) | (with_reducible refine Blk.new' ?_ ?_ <;> first | (with_reducible rfl) | (simp; done)) | (with_reducible refine Blk.alloc ?_ _) | (with_reducible refine RowIn.alloc ?_ _) | (with_reducible refine Below.alloc ?_ ?_ _) | (with_reducible apply Blk.set') | (with_reducible apply Blk.far') | (with_reducible refine RowIn.far' ?_ ?_ _) | (with_reducible refine Below.far' ?_ ?_ _) | rfl | omega | go_size)))).mono ?_
        rintro e w22 ⟨rfl, b22⟩
        have s22 := b22.size
        try simp only [World.size_alloc, World.size_setCell, World.size_drew, size_drewN] at s22
        have bb_22 : Below w.heap.size w w22 := by
          repeat' (first | (with_reducible assumption) | (with_reducible exact Below.refl _ _) | (with_reducible refine Blk.drewN ?_ _) | (with_reducible refine RowIn.drewN ?_ _) | (with_reducible refine below_drewN ?_ _) | (with_reducible refine Blk.drew ?_) | (with_reducible refine RowIn.drew ?_) | (with_reducible refine Below.drew ?_) | (with_reducible refine Blk.new' ?_ ?_ <;> first | (with_reducible rfl) | (simp; done)) | (with_reducible refine Blk.alloc ?_ _) | (with_reducible refine RowIn.alloc ?_ _) | (with_reducible refine Below.alloc ?_ ?_ _) | (with_reducible apply Blk.set') | (with_reducible apply Blk.far') | (with_reducible refine RowIn.far' ?_ ?_ _) | (with_reducible refine Below.far' ?_ ?_ _) | (with_reducible refine Blk.after ?_ b22) | (with_reducible refine RowIn.belowS ?_ b22) | (with_reducible refine Below.after ?_ b22 ?_) | rfl | omega | go_size)
        clear zb_21 zx_21 rl_21 rt_21 rb_21 bb_21 kb_21 fb_21 lb_21 kx_21 fx_21 lx_21 b22
        go_wp2
        go_ret
        refine ⟨rfl, ?_⟩
        repeat' (first | (with_reducible assumption) | (with_reducible exact Below.refl _ _) | (with_reducible refine Blk.drewN ?_ _) | (with_reducible refine RowIn.drewN ?_ _) | (with_reducible refine below_drewN ?_ _) | (with_reducible refine Blk.drew ?_) | (with_reducible refine RowIn.drew ?_) | (with_reducible refine Below.drew ?_) | (with_reducible refine Blk.new' ?_ ?_ <;> first | (with_reducible rfl) | (simp; done)) | (with_reducible refine Blk.alloc ?_ _) | (with_reducible refine RowIn.alloc ?_ _) | (with_reducible refine Below.alloc ?_ ?_ _) | (with_reducible apply Blk.set') | (with_reducible apply Blk.far') | (with_reducible refine RowIn.far' ?_ ?_ _) | (with_reducible refine Below.far' ?_ ?_ _) | rfl | omega | go_size)
      · have y4 : decide ((j : Int) < 500) = false := decide_eq_false (by omega)
        have y5 := hk0 (by omega)
        obtain rfl : s0 = 0 := y5
        have y6 : (((0 : Nat) : Int) == 0) = true := rfl
        go_wp2_with fail
        refine (alive09 _ (by exact RowIn.row (lo := 0) (hi := w.heap.size) (by repeat' (first | (with_reducible assumption) | (with_reducible exact Below.refl _ _) | (with_reducible refine Blk.drewN ?_ _) | (with_reducible refine RowIn.drewN ?_ _) | (with_reducible refine below_drewN ?_ _) | (with_reducible refine Blk.drew ?_) | (with_reducible refine RowIn.drew ?_) | (with_reducible refine Below.drew ?_) | (with_reducible refine Blk.new' ?_ ?_ <;> first | (with_reducible rfl) | (simp; done)) | (with_reducible refine Blk.alloc ?_ _) | (with_reducible refine RowIn.alloc ?_ _) | (with_reducible refine Below.alloc ?_ ?_ _) | (with_reducible apply Blk.set') | (with_reducible apply Blk.far') | (with_reducible refine RowIn.far' ?_ ?_ _) | (with_reducible refine Below.far' ?_ ?_ _) | rfl | omega | go_size)))).mono ?_
        rintro e w22 ⟨rfl, b22⟩
        have s22 := b22.size
        try simp only [World.size_alloc, World.size_setCell, World.size_drew, size_drewN] at s22
        have bb_22 : Below w.heap.size w w22 := by
          repeat' (first | (with_reducible assumption) | (with_reducible exact Below.refl _ _) | (with_reducible refine Blk.drewN ?_ _) | (with_reducible refine RowIn.drewN ?_ _) | (with_reducible refine below_drewN ?_ _) | (with_reducible refine Blk.drew ?_) | (with_reducible refine RowIn.drew ?_) | (with_reducible refine Below.drew ?_) | (with_reducible refine Blk.new' ?_ ?_ <;> first | (with_reducible rfl) | (simp; done)) | (with_reducible refine Blk.alloc ?_ _) | (with_reducible refine RowIn.alloc ?_ _) | (with_reducible refine Below.alloc ?_ ?_ _) | (with_reducible apply Blk.set') | (with_reducible apply Blk.far') | (with_reducible refine RowIn.far' ?_ ?_ _) | (with_reducible refine Below.far' ?_ ?_ _) | (with_reducible refine Blk.after ?_ b22) | (with_reducible refine RowIn.belowS ?_ b22) | (with_reducible refine Below.after ?_ b22 ?_) | rfl | omega | go_size)
        clear zb_21 zx_21 rl_21 rt_21 rb_21 bb_21 kb_21 fb_21 lb_21 kx_21 fx_21 lx_21 b22
        go_wp2
        go_ret
        refine ⟨rfl, ?_⟩
        repeat' (first | (with_reducible assumption) | (with_reducible exact Below.refl _ _) | (with_reducible refine Blk.drewN ?_ _) | (with_reducible refine RowIn.drewN ?_ _) | (with_reducible refine below_drewN ?_ _) | (with_reducible refine Blk.drew ?_) | (with_reducible refine RowIn.drew ?_) | (with_reducible refine Below.drew ?_) | (with_reducible refine Blk.new' ?_ ?_ <;> first | (with_reducible rfl) | (simp; done)) | (with_reducible refine Blk.alloc ?_ _) | (with_reducible refine RowIn.alloc ?_ _) | (with_reducible refine Below.alloc ?_ ?_ _) | (with_reducible apply Blk.set') | (with_reducible apply Blk.far') | (with_reducible refine RowIn.far' ?_ ?_ _) | (with_reducible refine Below.far' ?_ ?_ _) | rfl | omega | go_size)


end Go.Proofs.YtppilidcjlnmoaaDoor
