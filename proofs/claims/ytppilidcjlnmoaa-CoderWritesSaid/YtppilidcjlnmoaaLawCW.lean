/-
  The walk of CoderWrites.
-/
import Derived.Test.YtppilidcjlnmoaaCodE
import Derived.Test.YtppilidcjlnmoaaRefCB
import Derived.Test.YtppilidcjlnmoaaRefB
import Derived.Test.YtppilidcjlnmoaaRefD
namespace Go.Proofs.Ytppilidcjlnmoaa
open Go.RowKit Cad Cad.Bit Cad.Code
set_option linter.unusedVariables false
set_option linter.unusedSimpArgs false

theorem u32W : Elem Try.prog 22 42 .u32 4 := ⟨Try.underlying22, Try.underlying42, by kernel_rfl, by decide⟩
theorem cenc_any (A : Option Addr) (n c : Nat) (xs : List Int) (w : World) (ha : Row .u32 w A n xs) (hx : Within 0 4294967295 xs) :
    Calls Try.prog 5 #[.slice A n c] w (RetB w (if n ≤ 4000 then codeP Cad.Code.start xs n else []) (if n ≤ 4000 then 0 else 4)) := by
  by_cases h : n ≤ 4000
  · rw [if_pos h, if_pos h]; exact cenc_ok A n c xs w ha hx h
  · rw [if_neg h, if_neg h]; exact cenc_many A n c w (by omega)
theorem renc_any (A : Option Addr) (n c : Nat) (xs : List Int) (w : World) (ha : Row .u32 w A n xs) (hx : Within 0 4294967295 xs) :
    Calls Try.prog 6 #[.slice A n c] w (RetB w (if n ≤ 4000 then codeP Cad.Code.start xs n else []) (if n ≤ 4000 then 0 else 4)) := by
  by_cases h : n ≤ 4000
  · rw [if_pos h, if_pos h]; exact renc_ok A n c xs w ha hx h
  · rw [if_neg h, if_neg h]; exact renc_many A n c w (by omega)
theorem cafter_any (A : Option Addr) (n c : Nat) (xs : List Int) (w : World) (ha : Row .u32 w A n xs) (hx : Within 0 4294967295 xs) :
    Calls Try.prog 7 #[.slice A n c] w (RetS w (if n ≤ 4000 then stP Cad.Code.start xs n else ⟨0, 0, 0, 0⟩) (if n ≤ 4000 then 0 else 4)) := by
  by_cases h : n ≤ 4000
  · rw [if_pos h, if_pos h]; exact cafter_ok A n c xs w ha hx h
  · rw [if_neg h, if_neg h]; exact cafter_many A n c w (by omega)
theorem rafter_any (A : Option Addr) (n c : Nat) (xs : List Int) (w : World) (ha : Row .u32 w A n xs) (hx : Within 0 4294967295 xs) :
    Calls Try.prog 8 #[.slice A n c] w (RetS w (if n ≤ 4000 then stP Cad.Code.start xs n else ⟨0, 0, 0, 0⟩) (if n ≤ 4000 then 0 else 4)) := by
  by_cases h : n ≤ 4000
  · rw [if_pos h, if_pos h]; exact rafter_ok A n c xs w ha hx h
  · rw [if_neg h, if_neg h]; exact rafter_many A n c w (by omega)


set_option maxRecDepth 100000 in
set_option maxHeartbeats 4000000 in
theorem lawCoderWrites (w : World) (Al : Option Addr) (nl cl : Nat) (xsl : List Int) (hAl : RowC .u32 w Al nl cl xsl) (hxl : Within 0 4294967295 xsl) :
    Calls Try.prog 3 #[.slice Al nl cl] w fun e w' => e = .returned (.bool true) ∧ Below w.heap.size w w' := by
  have hal := hAl.row
  have hcl := hAl.2
  have hril := hal.rowIn
  have HLl := Lib.hid hal.len
  by_cases hg : 150 < nl ∧ nl ≤ 4000 ∨ 4010 < nl
  · go_enter Try.func3, Try.ntmps3
    go_wp2_with fail
    refine (r9great_yes Al nl cl _ hg).mono ?_
    rintro e w1 ⟨rfl, b1⟩
    have s1 := b1.size
    try simp only [World.size_alloc, World.size_setCell, World.size_drew, size_drewN] at s1
    obtain ⟨rl_1, bb_1⟩ : RowIn .u32 w1 (0) (w.heap.size) Al nl xsl ∧ Below w.heap.size w w1 := by
      refine ⟨?_, ?_⟩
      all_goals repeat' (first | (with_reducible assumption) | (with_reducible exact Below.refl _ _) | (with_reducible refine Blk.drewN ?_ _) | (with_reducible refine RowIn.drewN ?_ _) | (with_reducible refine below_drewN ?_ _) | (with_reducible refine Blk.drew ?_) | (with_reducible refine RowIn.drew ?_) | (with_reducible refine Below.drew ?_) | (with_reducible refine Blk.new' ?_ ?_ <;> first | (with_reducible rfl) | (simp; done)) | (with_reducible refine Blk.alloc ?_ _) | (with_reducible refine RowIn.alloc ?_ _) | (with_reducible refine Below.alloc ?_ ?_ _) | (with_reducible apply Blk.set') | (with_reducible apply Blk.far') | (with_reducible refine RowIn.far' ?_ ?_ _) | (with_reducible refine Below.far' ?_ ?_ _) | (with_reducible refine Blk.after ?_ b1) | (with_reducible refine RowIn.belowS ?_ b1) | (with_reducible refine Below.after ?_ b1 ?_) | rfl | omega | go_size)
    clear b1
    go_wp2
    go_ret
    refine ⟨rfl, ?_⟩
    repeat' (first | (with_reducible assumption) | (with_reducible exact Below.refl _ _) | (with_reducible refine Blk.drewN ?_ _) | (with_reducible refine RowIn.drewN ?_ _) | (with_reducible refine below_drewN ?_ _) | (with_reducible refine Blk.drew ?_) | (with_reducible refine RowIn.drew ?_) | (with_reducible refine Below.drew ?_) | (with_reducible refine Blk.new' ?_ ?_ <;> first | (with_reducible rfl) | (simp; done)) | (with_reducible refine Blk.alloc ?_ _) | (with_reducible refine RowIn.alloc ?_ _) | (with_reducible refine Below.alloc ?_ ?_ _) | (with_reducible apply Blk.set') | (with_reducible apply Blk.far') | (with_reducible refine RowIn.far' ?_ ?_ _) | (with_reducible refine Below.far' ?_ ?_ _) | rfl | omega | go_size)
  obtain ⟨CE, HCE⟩ : ∃ x, Hid (x = if nl ≤ 4000 then codeP Cad.Code.start xsl nl else []) := ⟨_, Lib.hid rfl⟩
  obtain ⟨er, HER⟩ : ∃ x : Int, Hid (x = if nl ≤ 4000 then 0 else 4) := ⟨_, Lib.hid rfl⟩
  obtain ⟨SE, HSE⟩ : ∃ x, Hid (x = if nl ≤ 4000 then stP Cad.Code.start xsl nl else ⟨0, 0, 0, 0⟩) := ⟨_, Lib.hid rfl⟩
  have h0 := fun A c W (hr : Row .u32 W A nl xsl) => cenc_any A nl c xsl W hr hxl
  have h1 := fun A c W (hr : Row .u32 W A nl xsl) => renc_any A nl c xsl W hr hxl
  have h2 := fun A c W (hr : Row .u32 W A nl xsl) => cafter_any A nl c xsl W hr hxl
  have h3 := fun A c W (hr : Row .u32 W A nl xsl) => rafter_any A nl c xsl W hr hxl
  rw [← HCE.out, ← HER.out] at h0 h1
  rw [← HSE.out, ← HER.out] at h2 h3
  replace h0 := Lib.hid h0
  replace h1 := Lib.hid h1
  replace h2 := Lib.hid h2
  replace h3 := Lib.hid h3
  go_enter Try.func3, Try.ntmps3
  go_wp2_with fail
  refine (r9great_no Al nl cl _ hg).mono ?_
  rintro e w1 ⟨rfl, b1⟩
  have s1 := b1.size
  try simp only [World.size_alloc, World.size_setCell, World.size_drew, size_drewN] at s1
  obtain ⟨rl_1, bb_1⟩ : RowIn .u32 w1 (0) (w.heap.size) Al nl xsl ∧ Below w.heap.size w w1 := by
    refine ⟨?_, ?_⟩
    all_goals repeat' (first | (with_reducible assumption) | (with_reducible exact Below.refl _ _) | (with_reducible refine Blk.drewN ?_ _) | (with_reducible refine RowIn.drewN ?_ _) | (with_reducible refine below_drewN ?_ _) | (with_reducible refine Blk.drew ?_) | (with_reducible refine RowIn.drew ?_) | (with_reducible refine Below.drew ?_) | (with_reducible refine Blk.new' ?_ ?_ <;> first | (with_reducible rfl) | (simp; done)) | (with_reducible refine Blk.alloc ?_ _) | (with_reducible refine RowIn.alloc ?_ _) | (with_reducible refine Below.alloc ?_ ?_ _) | (with_reducible apply Blk.set') | (with_reducible apply Blk.far') | (with_reducible refine RowIn.far' ?_ ?_ _) | (with_reducible refine Below.far' ?_ ?_ _) | (with_reducible refine Blk.after ?_ b1) | (with_reducible refine RowIn.belowS ?_ b1) | (with_reducible refine Below.after ?_ b1 ?_) | rfl | omega | go_size)
  clear b1
  have s1w : w.heap.size ≤ w1.heap.size := bb_1.size
  go_wp2_with (at_builtin; refine wpList_app _ u32W rfl _ _ rfl w1.heap.size _ _ _ [] rfl (own_empty' rfl (Nat.le_refl _)) _ _ _ xsl rfl (by exact rl_1.row.alloc _) (by omega) (by simp) ?_)
  intro Ao co w2 own2 hg2 hat2
  try rw [Nat.zero_add, List.nil_append] at own2
  have b2 : Below w1.heap.size w1 w2 := ((Below.refl _ _).alloc (Nat.le_refl _) _).grown hg2 (by simp) (fun g e => by simp [blockOf] at e; omega)
  have ro := own2.rowIn
  have hco := own2.rowC.2
  have s2 := b2.size
  try simp only [World.size_alloc, World.size_setCell, World.size_drew, size_drewN] at s2
  obtain ⟨rl_2, ro_2, bb_2⟩ : RowIn .u32 w2 (0) (w.heap.size) Al nl xsl ∧ RowIn .u32 w2 (w1.heap.size) (w2.heap.size) Ao nl xsl ∧ Below w.heap.size w w2 := by
    refine ⟨?_, ?_, ?_⟩
    all_goals repeat' (first | (with_reducible assumption) | (with_reducible exact Below.refl _ _) | (with_reducible refine Blk.drewN ?_ _) | (with_reducible refine RowIn.drewN ?_ _) | (with_reducible refine below_drewN ?_ _) | (with_reducible refine Blk.drew ?_) | (with_reducible refine RowIn.drew ?_) | (with_reducible refine Below.drew ?_) | (with_reducible refine Blk.new' ?_ ?_ <;> first | (with_reducible rfl) | (simp; done)) | (with_reducible refine Blk.alloc ?_ _) | (with_reducible refine RowIn.alloc ?_ _) | (with_reducible refine Below.alloc ?_ ?_ _) | (with_reducible apply Blk.set') | (with_reducible apply Blk.far') | (with_reducible refine RowIn.far' ?_ ?_ _) | (with_reducible refine Below.far' ?_ ?_ _) | (with_reducible refine Blk.after ?_ b2) | (with_reducible refine RowIn.belowS ?_ b2) | (with_reducible refine Below.after ?_ b2 ?_) | rfl | omega | go_size)
  clear rl_1 bb_1 b2
  clear ro own2 hg2 hat2
  go_wp2_with fail
  refine (h0.out Ao co _ (by exact RowIn.row (lo := w1.heap.size) (hi := w2.heap.size) (by repeat' (first | (with_reducible assumption) | (with_reducible exact Below.refl _ _) | (with_reducible refine Blk.drewN ?_ _) | (with_reducible refine RowIn.drewN ?_ _) | (with_reducible refine below_drewN ?_ _) | (with_reducible refine Blk.drew ?_) | (with_reducible refine RowIn.drew ?_) | (with_reducible refine Below.drew ?_) | (with_reducible refine Blk.new' ?_ ?_ <;> first | (with_reducible rfl) | (simp; done)) | (with_reducible refine Blk.alloc ?_ _) | (with_reducible refine RowIn.alloc ?_ _) | (with_reducible refine Below.alloc ?_ ?_ _) | (with_reducible apply Blk.set') | (with_reducible apply Blk.far') | (with_reducible refine RowIn.far' ?_ ?_ _) | (with_reducible refine Below.far' ?_ ?_ _) | rfl | omega | go_size)))).mono ?_
  rintro e w3 ⟨Aa, ma, ca, xa, rfl, hca, ra, HXa, b3⟩
  replace ra := ra.mono (lo' := w2.heap.size + 0) (by go_size) (Nat.le_refl _)
  have s3 := b3.size
  try simp only [World.size_alloc, World.size_setCell, World.size_drew, size_drewN] at s3
  obtain ⟨rl_3, ro_3, ra_3, bb_3⟩ : RowIn .u32 w3 (0) (w.heap.size) Al nl xsl ∧ RowIn .u32 w3 (w1.heap.size) (w2.heap.size) Ao nl xsl ∧ RowIn .u8 w3 (w2.heap.size + 0) (w3.heap.size) Aa ma (pack xa) ∧ Below w.heap.size w w3 := by
    refine ⟨?_, ?_, ?_, ?_⟩
    all_goals repeat' (first | (with_reducible assumption) | (with_reducible exact Below.refl _ _) | (with_reducible refine Blk.drewN ?_ _) | (with_reducible refine RowIn.drewN ?_ _) | (with_reducible refine below_drewN ?_ _) | (with_reducible refine Blk.drew ?_) | (with_reducible refine RowIn.drew ?_) | (with_reducible refine Below.drew ?_) | (with_reducible refine Blk.new' ?_ ?_ <;> first | (with_reducible rfl) | (simp; done)) | (with_reducible refine Blk.alloc ?_ _) | (with_reducible refine RowIn.alloc ?_ _) | (with_reducible refine Below.alloc ?_ ?_ _) | (with_reducible apply Blk.set') | (with_reducible apply Blk.far') | (with_reducible refine RowIn.far' ?_ ?_ _) | (with_reducible refine Below.far' ?_ ?_ _) | (with_reducible refine Blk.after ?_ b3) | (with_reducible refine RowIn.belowS ?_ b3) | (with_reducible refine Below.after ?_ b3 ?_) | rfl | omega | go_size)
  clear rl_2 ro_2 bb_2 b3
  clear ra
  go_wp2_with fail
  refine (h1.out Al cl _ (by exact RowIn.row (lo := 0) (hi := w.heap.size) (by repeat' (first | (with_reducible assumption) | (with_reducible exact Below.refl _ _) | (with_reducible refine Blk.drewN ?_ _) | (with_reducible refine RowIn.drewN ?_ _) | (with_reducible refine below_drewN ?_ _) | (with_reducible refine Blk.drew ?_) | (with_reducible refine RowIn.drew ?_) | (with_reducible refine Below.drew ?_) | (with_reducible refine Blk.new' ?_ ?_ <;> first | (with_reducible rfl) | (simp; done)) | (with_reducible refine Blk.alloc ?_ _) | (with_reducible refine RowIn.alloc ?_ _) | (with_reducible refine Below.alloc ?_ ?_ _) | (with_reducible apply Blk.set') | (with_reducible apply Blk.far') | (with_reducible refine RowIn.far' ?_ ?_ _) | (with_reducible refine Below.far' ?_ ?_ _) | rfl | omega | go_size)))).mono ?_
  rintro e w4 ⟨Ab, mb, cb, xb, rfl, hcb, rb, HXb, b4⟩
  replace rb := rb.mono (lo' := w3.heap.size + 1) (by go_size) (Nat.le_refl _)
  have s4 := b4.size
  try simp only [World.size_alloc, World.size_setCell, World.size_drew, size_drewN] at s4
  obtain ⟨za_4, rl_4, ro_4, ra_4, rb_4, bb_4⟩ : Blk w4 (w3.heap.size) 26 [.slice Aa ma ca, .int .i64 ((xa.length : Nat) : Int)] ∧ RowIn .u32 w4 (0) (w.heap.size) Al nl xsl ∧ RowIn .u32 w4 (w1.heap.size) (w2.heap.size) Ao nl xsl ∧ RowIn .u8 w4 (w2.heap.size + 0) (w3.heap.size) Aa ma (pack xa) ∧ RowIn .u8 w4 (w3.heap.size + 1) (w4.heap.size) Ab mb (pack xb) ∧ Below w.heap.size w w4 := by
    refine ⟨?_, ?_, ?_, ?_, ?_, ?_⟩
    all_goals repeat' (first | (with_reducible assumption) | (with_reducible exact Below.refl _ _) | (with_reducible refine Blk.drewN ?_ _) | (with_reducible refine RowIn.drewN ?_ _) | (with_reducible refine below_drewN ?_ _) | (with_reducible refine Blk.drew ?_) | (with_reducible refine RowIn.drew ?_) | (with_reducible refine Below.drew ?_) | (with_reducible refine Blk.new' ?_ ?_ <;> first | (with_reducible rfl) | (simp; done)) | (with_reducible refine Blk.alloc ?_ _) | (with_reducible refine RowIn.alloc ?_ _) | (with_reducible refine Below.alloc ?_ ?_ _) | (with_reducible apply Blk.set') | (with_reducible apply Blk.far') | (with_reducible refine RowIn.far' ?_ ?_ _) | (with_reducible refine Below.far' ?_ ?_ _) | (with_reducible refine Blk.after ?_ b4) | (with_reducible refine RowIn.belowS ?_ b4) | (with_reducible refine Below.after ?_ b4 ?_) | rfl | omega | go_size)
  clear rl_3 ro_3 ra_3 bb_3 b4
  have ka_4 := za_4.cell; have fa_4 := za_4.frozen; have la_4 := za_4.lt
  clear rb
  go_wp2_with fail
  refine (h2.out Ao co _ (by exact RowIn.row (lo := w1.heap.size) (hi := w2.heap.size) (by repeat' (first | (with_reducible assumption) | (with_reducible exact Below.refl _ _) | (with_reducible refine Blk.drewN ?_ _) | (with_reducible refine RowIn.drewN ?_ _) | (with_reducible refine below_drewN ?_ _) | (with_reducible refine Blk.drew ?_) | (with_reducible refine RowIn.drew ?_) | (with_reducible refine Below.drew ?_) | (with_reducible refine Blk.new' ?_ ?_ <;> first | (with_reducible rfl) | (simp; done)) | (with_reducible refine Blk.alloc ?_ _) | (with_reducible refine RowIn.alloc ?_ _) | (with_reducible refine Below.alloc ?_ ?_ _) | (with_reducible apply Blk.set') | (with_reducible apply Blk.far') | (with_reducible refine RowIn.far' ?_ ?_ _) | (with_reducible refine Below.far' ?_ ?_ _) | rfl | omega | go_size)))).mono ?_
  rintro e w5 ⟨u0, u1, v0, v1, rfl, HSx, b5⟩
  have s5 := b5.size
  try simp only [World.size_alloc, World.size_setCell, World.size_drew, size_drewN] at s5
  obtain ⟨za_5, zb_5, rl_5, ro_5, ra_5, rb_5, bb_5⟩ : Blk w5 (w3.heap.size) 26 [.slice Aa ma ca, .int .i64 ((xa.length : Nat) : Int)] ∧ Blk w5 (w4.heap.size) 26 [.slice Ab mb cb, .int .i64 ((xb.length : Nat) : Int)] ∧ RowIn .u32 w5 (0) (w.heap.size) Al nl xsl ∧ RowIn .u32 w5 (w1.heap.size) (w2.heap.size) Ao nl xsl ∧ RowIn .u8 w5 (w2.heap.size + 0) (w3.heap.size) Aa ma (pack xa) ∧ RowIn .u8 w5 (w3.heap.size + 1) (w4.heap.size) Ab mb (pack xb) ∧ Below w.heap.size w w5 := by
    refine ⟨?_, ?_, ?_, ?_, ?_, ?_, ?_⟩
    all_goals repeat' (first | (with_reducible assumption) | (with_reducible exact Below.refl _ _) | (with_reducible refine Blk.drewN ?_ _) | (with_reducible refine RowIn.drewN ?_ _) | (with_reducible refine below_drewN ?_ _) | (with_reducible refine Blk.drew ?_) | (with_reducible refine RowIn.drew ?_) | (with_reducible refine Below.drew ?_) | (with_reducible refine Blk.new' ?_ ?_ <;> first | (with_reducible rfl) | (simp; done)) | (with_reducible refine Blk.alloc ?_ _) | (with_reducible refine RowIn.alloc ?_ _) | (with_reducible refine Below.alloc ?_ ?_ _) | (with_reducible apply Blk.set') | (with_reducible apply Blk.far') | (with_reducible refine RowIn.far' ?_ ?_ _) | (with_reducible refine Below.far' ?_ ?_ _) | (with_reducible refine Blk.after ?_ b5) | (with_reducible refine RowIn.belowS ?_ b5) | (with_reducible refine Below.after ?_ b5 ?_) | rfl | omega | go_size)
  clear za_4 rl_4 ro_4 ra_4 rb_4 bb_4 ka_4 fa_4 la_4 b5
  have ka_5 := za_5.cell; have fa_5 := za_5.frozen; have la_5 := za_5.lt
  have kb_5 := zb_5.cell; have fb_5 := zb_5.frozen; have lb_5 := zb_5.lt
  go_wp2_with fail
  refine (h3.out Al cl _ (by exact RowIn.row (lo := 0) (hi := w.heap.size) (by repeat' (first | (with_reducible assumption) | (with_reducible exact Below.refl _ _) | (with_reducible refine Blk.drewN ?_ _) | (with_reducible refine RowIn.drewN ?_ _) | (with_reducible refine below_drewN ?_ _) | (with_reducible refine Blk.drew ?_) | (with_reducible refine RowIn.drew ?_) | (with_reducible refine Below.drew ?_) | (with_reducible refine Blk.new' ?_ ?_ <;> first | (with_reducible rfl) | (simp; done)) | (with_reducible refine Blk.alloc ?_ _) | (with_reducible refine RowIn.alloc ?_ _) | (with_reducible refine Below.alloc ?_ ?_ _) | (with_reducible apply Blk.set') | (with_reducible apply Blk.far') | (with_reducible refine RowIn.far' ?_ ?_ _) | (with_reducible refine Below.far' ?_ ?_ _) | rfl | omega | go_size)))).mono ?_
  rintro e w6 ⟨s0, s1, t0, t1, rfl, HSy, b6⟩
  have s6 := b6.size
  try simp only [World.size_alloc, World.size_setCell, World.size_drew, size_drewN] at s6
  obtain ⟨za_6, zb_6, zx_6, rl_6, ro_6, ra_6, rb_6, bb_6⟩ : Blk w6 (w3.heap.size) 26 [.slice Aa ma ca, .int .i64 ((xa.length : Nat) : Int)] ∧ Blk w6 (w4.heap.size) 26 [.slice Ab mb cb, .int .i64 ((xb.length : Nat) : Int)] ∧ Blk w6 (w5.heap.size) 34 [.int .i64 (u0 : Int), .int .i64 (u1 : Int), .int .u64 (v0 : Int), .int .u64 (v1 : Int)] ∧ RowIn .u32 w6 (0) (w.heap.size) Al nl xsl ∧ RowIn .u32 w6 (w1.heap.size) (w2.heap.size) Ao nl xsl ∧ RowIn .u8 w6 (w2.heap.size + 0) (w3.heap.size) Aa ma (pack xa) ∧ RowIn .u8 w6 (w3.heap.size + 1) (w4.heap.size) Ab mb (pack xb) ∧ Below w.heap.size w w6 := by
    refine ⟨?_, ?_, ?_, ?_, ?_, ?_, ?_, ?_⟩
    all_goals repeat' (first | (with_reducible assumption) | (with_reducible exact Below.refl _ _) | (with_reducible refine Blk.drewN ?_ _) | (with_reducible refine RowIn.drewN ?_ _) | (with_reducible refine below_drewN ?_ _) | (with_reducible refine Blk.drew ?_) | (with_reducible refine RowIn.drew ?_) | (with_reducible refine Below.drew ?_) | (with_reducible refine Blk.new' ?_ ?_ <;> first | (with_reducible rfl) | (simp; done)) | (with_reducible refine Blk.alloc ?_ _) | (with_reducible refine RowIn.alloc ?_ _) | (with_reducible refine Below.alloc ?_ ?_ _) | (with_reducible apply Blk.set') | (with_reducible apply Blk.far') | (with_reducible refine RowIn.far' ?_ ?_ _) | (with_reducible refine Below.far' ?_ ?_ _) | (with_reducible refine Blk.after ?_ b6) | (with_reducible refine RowIn.belowS ?_ b6) | (with_reducible refine Below.after ?_ b6 ?_) | rfl | omega | go_size)
  clear za_5 zb_5 rl_5 ro_5 ra_5 rb_5 bb_5 ka_5 fa_5 la_5 kb_5 fb_5 lb_5 b6
  have ka_6 := za_6.cell; have fa_6 := za_6.frozen; have la_6 := za_6.lt
  have kb_6 := zb_6.cell; have fb_6 := zb_6.frozen; have lb_6 := zb_6.lt
  have kx_6 := zx_6.cell; have fx_6 := zx_6.frozen; have lx_6 := zx_6.lt
  have he := HSx.out.trans HSy.out.symm
  injection he with he0 he1 he2 he3
  obtain rfl : u0 = s0 := he0
  obtain rfl : u1 = s1 := he1
  obtain rfl : v0 = t0 := he2
  obtain rfl : v1 = t1 := he3
  clear HSx HSy h0 h1 h2 h3
  have HE : Hid (xa = xb) := by rw [HXa.out, HXb.out]; exact Lib.hid rfl
  have t1 : (er == er) = true := by simp
  go_wp2_with fail
  refine (rsame_bits Aa Ab ma mb ca cb xa xb _ (by exact RowIn.row (lo := w2.heap.size + 0) (hi := w3.heap.size) (by repeat' (first | (with_reducible assumption) | (with_reducible exact Below.refl _ _) | (with_reducible refine Blk.drewN ?_ _) | (with_reducible refine RowIn.drewN ?_ _) | (with_reducible refine below_drewN ?_ _) | (with_reducible refine Blk.drew ?_) | (with_reducible refine RowIn.drew ?_) | (with_reducible refine Below.drew ?_) | (with_reducible refine Blk.new' ?_ ?_ <;> first | (with_reducible rfl) | (simp; done)) | (with_reducible refine Blk.alloc ?_ _) | (with_reducible refine RowIn.alloc ?_ _) | (with_reducible refine Below.alloc ?_ ?_ _) | (with_reducible apply Blk.set') | (with_reducible apply Blk.far') | (with_reducible refine RowIn.far' ?_ ?_ _) | (with_reducible refine Below.far' ?_ ?_ _) | rfl | omega | go_size))) (by exact RowIn.row (lo := w3.heap.size + 1) (hi := w4.heap.size) (by repeat' (first | (with_reducible assumption) | (with_reducible exact Below.refl _ _) | (with_reducible refine Blk.drewN ?_ _) | (with_reducible refine RowIn.drewN ?_ _) | (with_reducible refine below_drewN ?_ _) | (with_reducible refine Blk.drew ?_) | (with_reducible refine RowIn.drew ?_) | (with_reducible refine Below.drew ?_) | (with_reducible refine Blk.new' ?_ ?_ <;> first | (with_reducible rfl) | (simp; done)) | (with_reducible refine Blk.alloc ?_ _) | (with_reducible refine RowIn.alloc ?_ _) | (with_reducible refine Below.alloc ?_ ?_ _) | (with_reducible apply Blk.set') | (with_reducible apply Blk.far') | (with_reducible refine RowIn.far' ?_ ?_ _) | (with_reducible refine Below.far' ?_ ?_ _) | rfl | omega | go_size))) HE.out).mono ?_
  rintro e w7 ⟨rfl, b7⟩
  have s7 := b7.size
  try simp only [World.size_alloc, World.size_setCell, World.size_drew, size_drewN] at s7
  obtain ⟨za_7, zb_7, zx_7, zy_7, rl_7, ro_7, ra_7, rb_7, bb_7⟩ : Blk w7 (w3.heap.size) 26 [.slice Aa ma ca, .int .i64 ((xa.length : Nat) : Int)] ∧ Blk w7 (w4.heap.size) 26 [.slice Ab mb cb, .int .i64 ((xb.length : Nat) : Int)] ∧ Blk w7 (w5.heap.size) 34 [.int .i64 (u0 : Int), .int .i64 (u1 : Int), .int .u64 (v0 : Int), .int .u64 (v1 : Int)] ∧ Blk w7 (w6.heap.size) 34 [.int .i64 (u0 : Int), .int .i64 (u1 : Int), .int .u64 (v0 : Int), .int .u64 (v1 : Int)] ∧ RowIn .u32 w7 (0) (w.heap.size) Al nl xsl ∧ RowIn .u32 w7 (w1.heap.size) (w2.heap.size) Ao nl xsl ∧ RowIn .u8 w7 (w2.heap.size + 0) (w3.heap.size) Aa ma (pack xa) ∧ RowIn .u8 w7 (w3.heap.size + 1) (w4.heap.size) Ab mb (pack xb) ∧ Below w.heap.size w w7 := by
    refine ⟨?_, ?_, ?_, ?_, ?_, ?_, ?_, ?_, ?_⟩
    all_goals repeat' (first | (with_reducible assumption) | (with_reducible exact Below.refl _ _) | (with_reducible refine Blk.drewN ?_ _) | (with_reducible refine RowIn.drewN ?_ _) | (with_reducible refine below_drewN ?_ _) | (with_reducible refine Blk.drew ?_) | (with_reducible refine RowIn.drew ?_) | (with_reducible refine Below.drew ?_) | (with_reducible refine Blk.new' ?_ ?_ <;> first | (with_reducible rfl) | (simp; done)) | (with_reducible refine Blk.alloc ?_ _) | (with_reducible refine RowIn.alloc ?_ _) | (with_reducible refine Below.alloc ?_ ?_ _) | (with_reducible apply Blk.set') | (with_reducible apply Blk.far') | (with_reducible refine RowIn.far' ?_ ?_ _) | (with_reducible refine Below.far' ?_ ?_ _) | (with_reducible refine Blk.after ?_ b7) | (with_reducible refine RowIn.belowS ?_ b7) | (with_reducible refine Below.after ?_ b7 ?_) | rfl | omega | go_size)
  clear za_6 zb_6 zx_6 rl_6 ro_6 ra_6 rb_6 bb_6 ka_6 fa_6 la_6 kb_6 fb_6 lb_6 kx_6 fx_6 lx_6 b7
  have ka_7 := za_7.cell; have fa_7 := za_7.frozen; have la_7 := za_7.lt
  have kb_7 := zb_7.cell; have fb_7 := zb_7.frozen; have lb_7 := zb_7.lt
  have kx_7 := zx_7.cell; have fx_7 := zx_7.frozen; have lx_7 := zx_7.lt
  have ky_7 := zy_7.cell; have fy_7 := zy_7.frozen; have ly_7 := zy_7.lt
  go_wp2_with fail
  refine (r9same_eq Ao Al nl co nl cl xsl xsl _ (by exact RowIn.row (lo := w1.heap.size) (hi := w2.heap.size) (by repeat' (first | (with_reducible assumption) | (with_reducible exact Below.refl _ _) | (with_reducible refine Blk.drewN ?_ _) | (with_reducible refine RowIn.drewN ?_ _) | (with_reducible refine below_drewN ?_ _) | (with_reducible refine Blk.drew ?_) | (with_reducible refine RowIn.drew ?_) | (with_reducible refine Below.drew ?_) | (with_reducible refine Blk.new' ?_ ?_ <;> first | (with_reducible rfl) | (simp; done)) | (with_reducible refine Blk.alloc ?_ _) | (with_reducible refine RowIn.alloc ?_ _) | (with_reducible refine Below.alloc ?_ ?_ _) | (with_reducible apply Blk.set') | (with_reducible apply Blk.far') | (with_reducible refine RowIn.far' ?_ ?_ _) | (with_reducible refine Below.far' ?_ ?_ _) | rfl | omega | go_size))) (by exact RowIn.row (lo := 0) (hi := w.heap.size) (by repeat' (first | (with_reducible assumption) | (with_reducible exact Below.refl _ _) | (with_reducible refine Blk.drewN ?_ _) | (with_reducible refine RowIn.drewN ?_ _) | (with_reducible refine below_drewN ?_ _) | (with_reducible refine Blk.drew ?_) | (with_reducible refine RowIn.drew ?_) | (with_reducible refine Below.drew ?_) | (with_reducible refine Blk.new' ?_ ?_ <;> first | (with_reducible rfl) | (simp; done)) | (with_reducible refine Blk.alloc ?_ _) | (with_reducible refine RowIn.alloc ?_ _) | (with_reducible refine Below.alloc ?_ ?_ _) | (with_reducible apply Blk.set') | (with_reducible apply Blk.far') | (with_reducible refine RowIn.far' ?_ ?_ _) | (with_reducible refine Below.far' ?_ ?_ _) | rfl | omega | go_size))) (by omega) rfl).mono ?_
  rintro e w8 ⟨rfl, b8⟩
  have s8 := b8.size
  try simp only [World.size_alloc, World.size_setCell, World.size_drew, size_drewN] at s8
  obtain ⟨za_8, zb_8, zx_8, zy_8, rl_8, ro_8, ra_8, rb_8, bb_8⟩ : Blk w8 (w3.heap.size) 26 [.slice Aa ma ca, .int .i64 ((xa.length : Nat) : Int)] ∧ Blk w8 (w4.heap.size) 26 [.slice Ab mb cb, .int .i64 ((xb.length : Nat) : Int)] ∧ Blk w8 (w5.heap.size) 34 [.int .i64 (u0 : Int), .int .i64 (u1 : Int), .int .u64 (v0 : Int), .int .u64 (v1 : Int)] ∧ Blk w8 (w6.heap.size) 34 [.int .i64 (u0 : Int), .int .i64 (u1 : Int), .int .u64 (v0 : Int), .int .u64 (v1 : Int)] ∧ RowIn .u32 w8 (0) (w.heap.size) Al nl xsl ∧ RowIn .u32 w8 (w1.heap.size) (w2.heap.size) Ao nl xsl ∧ RowIn .u8 w8 (w2.heap.size + 0) (w3.heap.size) Aa ma (pack xa) ∧ RowIn .u8 w8 (w3.heap.size + 1) (w4.heap.size) Ab mb (pack xb) ∧ Below w.heap.size w w8 := by
    refine ⟨?_, ?_, ?_, ?_, ?_, ?_, ?_, ?_, ?_⟩
    all_goals repeat' (first | (with_reducible assumption) | (with_reducible exact Below.refl _ _) | (with_reducible refine Blk.drewN ?_ _) | (with_reducible refine RowIn.drewN ?_ _) | (with_reducible refine below_drewN ?_ _) | (with_reducible refine Blk.drew ?_) | (with_reducible refine RowIn.drew ?_) | (with_reducible refine Below.drew ?_) | (with_reducible refine Blk.new' ?_ ?_ <;> first | (with_reducible rfl) | (simp; done)) | (with_reducible refine Blk.alloc ?_ _) | (with_reducible refine RowIn.alloc ?_ _) | (with_reducible refine Below.alloc ?_ ?_ _) | (with_reducible apply Blk.set') | (with_reducible apply Blk.far') | (with_reducible refine RowIn.far' ?_ ?_ _) | (with_reducible refine Below.far' ?_ ?_ _) | (with_reducible refine Blk.after ?_ b8) | (with_reducible refine RowIn.belowS ?_ b8) | (with_reducible refine Below.after ?_ b8 ?_) | rfl | omega | go_size)
  clear za_7 zb_7 zx_7 zy_7 rl_7 ro_7 ra_7 rb_7 bb_7 ka_7 fa_7 la_7 kb_7 fb_7 lb_7 kx_7 fx_7 lx_7 ky_7 fy_7 ly_7 b8
  have ka_8 := za_8.cell; have fa_8 := za_8.frozen; have la_8 := za_8.lt
  have kb_8 := zb_8.cell; have fb_8 := zb_8.frozen; have lb_8 := zb_8.lt
  have kx_8 := zx_8.cell; have fx_8 := zx_8.frozen; have lx_8 := zx_8.lt
  have ky_8 := zy_8.cell; have fy_8 := zy_8.frozen; have ly_8 := zy_8.lt
  go_wp2
  go_ret
  refine ⟨rfl, ?_⟩
  repeat' (first | (with_reducible assumption) | (with_reducible exact Below.refl _ _) | (with_reducible refine Blk.drewN ?_ _) | (with_reducible refine RowIn.drewN ?_ _) | (with_reducible refine below_drewN ?_ _) | (with_reducible refine Blk.drew ?_) | (with_reducible refine RowIn.drew ?_) | (with_reducible refine Below.drew ?_) | (with_reducible refine Blk.new' ?_ ?_ <;> first | (with_reducible rfl) | (simp; done)) | (with_reducible refine Blk.alloc ?_ _) | (with_reducible refine RowIn.alloc ?_ _) | (with_reducible refine Below.alloc ?_ ?_ _) | (with_reducible apply Blk.set') | (with_reducible apply Blk.far') | (with_reducible refine RowIn.far' ?_ ?_ _) | (with_reducible refine Below.far' ?_ ?_ _) | rfl | omega | go_size)


end Go.Proofs.Ytppilidcjlnmoaa
