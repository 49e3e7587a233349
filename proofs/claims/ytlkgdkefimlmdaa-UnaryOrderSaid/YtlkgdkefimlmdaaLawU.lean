/-
  The examples of chapter 6 (runs).
-/
import Derived.Test.YtlkgdkefimlmdaaUnaA
import Derived.Test.YtlkgdkefimlmdaaRefB
namespace Go.Proofs.Ytlkgdkefimlmdaa
open Go.RowKit Cad Cad.Bit Cad.Code
set_option linter.unusedVariables false
set_option linter.unusedSimpArgs false

set_option maxRecDepth 100000 in
set_option maxHeartbeats 400000 in
theorem alive06 (w : World) : Calls Try.prog 24 #[] w fun e w' => e = .returned (.bool true) ∧ Below w.heap.size w w' := by
  go_enter Try.func24, Try.ntmps24
  go_wp2_with fail
  refine (uwrite_ok none 0 0 [] 0 _ Row.nil ⟨Nat.le_refl _, Nat.zero_le _⟩ (by omega) (by decide)).mono ?_
  rintro e w1 ⟨Aa, ma, ca, xa, rfl, hca, ra, HXa, b1⟩
  have La : xa.length ≤ 1 ∧ 1 ≤ xa.length := by rw [HXa.out]; decide
  obtain ⟨La1, La2⟩ := La
  replace ra := ra.mono (lo' := w.heap.size + 0) (by go_size) (Nat.le_refl _)
  have s1 := b1.size
  try simp only [World.size_alloc, World.size_setCell, World.size_drew, size_drewN] at s1
  obtain ⟨ra_1, bb_1⟩ : RowIn .u8 w1 (w.heap.size + 0) (w1.heap.size) Aa ma (pack xa) ∧ Below w.heap.size w w1 := by
    refine ⟨?_, ?_⟩
    all_goals repeat' (first | (with_reducible assumption) | (with_reducible exact Below.refl _ _) | (with_reducible refine Blk.after ?_ b1) | (with_reducible refine RowIn.belowS ?_ b1) | (with_reducible refine Below.after ?_ b1 ?_) | (with_reducible refine Blk.drewN ?_ _) | (with_reducible refine RowIn.drewN ?_ _) | (with_reducible refine below_drewN ?_ _) | (with_reducible refine Blk.drew ?_) | (with_reducible refine RowIn.drew ?_) | (with_reducible refine Below.drew ?_) | (with_reducible refine Blk.new' ?_ ?_ <;> first | (with_reducible rfl) | (simp; done)) | (with_reducible refine Blk.alloc ?_ _) | (with_reducible refine RowIn.alloc ?_ _) | (with_reducible refine Below.alloc ?_ ?_ _) | (with_reducible apply Blk.set') | (with_reducible refine Blk.far' ?_ ?_ _) | (with_reducible refine RowIn.far' ?_ ?_ _) | (with_reducible refine Below.far' ?_ ?_ _) | rfl | omega | go_size)
  clear b1
  clear ra
  go_wp2_with fail
  refine (uwrite_ok none 0 0 [] 3 _ Row.nil ⟨Nat.le_refl _, Nat.zero_le _⟩ (by omega) (by decide)).mono ?_
  rintro e w2 ⟨Ab, mb, cb, xb, rfl, hcb, rb, HXb, b2⟩
  have Lb : xb.length ≤ 4 ∧ 4 ≤ xb.length := by rw [HXb.out]; decide
  obtain ⟨Lb1, Lb2⟩ := Lb
  replace rb := rb.mono (lo' := w1.heap.size + 1) (by go_size) (Nat.le_refl _)
  have s2 := b2.size
  try simp only [World.size_alloc, World.size_setCell, World.size_drew, size_drewN] at s2
  obtain ⟨za_2, ra_2, rb_2, bb_2⟩ : Blk w2 (w1.heap.size) 24 [.slice Aa ma ca, .int .i64 ((xa.length : Nat) : Int)] ∧ RowIn .u8 w2 (w.heap.size + 0) (w1.heap.size) Aa ma (pack xa) ∧ RowIn .u8 w2 (w1.heap.size + 1) (w2.heap.size) Ab mb (pack xb) ∧ Below w.heap.size w w2 := by
    refine ⟨?_, ?_, ?_, ?_⟩
    all_goals repeat' (first | (with_reducible assumption) | (with_reducible exact Below.refl _ _) | (with_reducible refine Blk.after ?_ b2) | (with_reducible refine RowIn.belowS ?_ b2) | (with_reducible refine Below.after ?_ b2 ?_) | (with_reducible refine Blk.drewN ?_ _) | (with_reducible refine RowIn.drewN ?_ _) | (with_reducible refine below_drewN ?_ _) | (with_reducible refine Blk.drew ?_) | (with_reducible refine RowIn.drew ?_) | (with_reducible refine Below.drew ?_) | (with_reducible refine Blk.new' ?_ ?_ <;> first | (with_reducible rfl) | (simp; done)) | (with_reducible refine Blk.alloc ?_ _) | (with_reducible refine RowIn.alloc ?_ _) | (with_reducible refine Below.alloc ?_ ?_ _) | (with_reducible apply Blk.set') | (with_reducible refine Blk.far' ?_ ?_ _) | (with_reducible refine RowIn.far' ?_ ?_ _) | (with_reducible refine Below.far' ?_ ?_ _) | rfl | omega | go_size)
  clear ra_1 bb_1 b2
  have ka_2 := za_2.cell; have fa_2 := za_2.frozen; have la_2 := za_2.lt
  clear rb
  go_wp2_with fail
  refine (uwrite_ok none 0 0 [] 48 _ Row.nil ⟨Nat.le_refl _, Nat.zero_le _⟩ (by omega) (by decide)).mono ?_
  rintro e w3 ⟨Ac, mc, cc, xc, rfl, hcc, rc, HXc, b3⟩
  have Lc : xc.length ≤ 48 ∧ 48 ≤ xc.length := by rw [HXc.out]; decide
  obtain ⟨Lc1, Lc2⟩ := Lc
  replace rc := rc.mono (lo' := w2.heap.size + 1) (by go_size) (Nat.le_refl _)
  have s3 := b3.size
  try simp only [World.size_alloc, World.size_setCell, World.size_drew, size_drewN] at s3
  obtain ⟨za_3, zb_3, ra_3, rb_3, rc_3, bb_3⟩ : Blk w3 (w1.heap.size) 24 [.slice Aa ma ca, .int .i64 ((xa.length : Nat) : Int)] ∧ Blk w3 (w2.heap.size) 24 [.slice Ab mb cb, .int .i64 ((xb.length : Nat) : Int)] ∧ RowIn .u8 w3 (w.heap.size + 0) (w1.heap.size) Aa ma (pack xa) ∧ RowIn .u8 w3 (w1.heap.size + 1) (w2.heap.size) Ab mb (pack xb) ∧ RowIn .u8 w3 (w2.heap.size + 1) (w3.heap.size) Ac mc (pack xc) ∧ Below w.heap.size w w3 := by
    refine ⟨?_, ?_, ?_, ?_, ?_, ?_⟩
    all_goals repeat' (first | (with_reducible assumption) | (with_reducible exact Below.refl _ _) | (with_reducible refine Blk.after ?_ b3) | (with_reducible refine RowIn.belowS ?_ b3) | (with_reducible refine Below.after ?_ b3 ?_) | (with_reducible refine Blk.drewN ?_ _) | (with_reducible refine RowIn.drewN ?_ _) | (with_reducible refine below_drewN ?_ _) | (with_reducible refine Blk.drew ?_) | (with_reducible refine RowIn.drew ?_) | (with_reducible refine Below.drew ?_) | (with_reducible refine Blk.new' ?_ ?_ <;> first | (with_reducible rfl) | (simp; done)) | (with_reducible refine Blk.alloc ?_ _) | (with_reducible refine RowIn.alloc ?_ _) | (with_reducible refine Below.alloc ?_ ?_ _) | (with_reducible apply Blk.set') | (with_reducible refine Blk.far' ?_ ?_ _) | (with_reducible refine RowIn.far' ?_ ?_ _) | (with_reducible refine Below.far' ?_ ?_ _) | rfl | omega | go_size)
  clear za_2 ra_2 rb_2 bb_2 ka_2 fa_2 la_2 b3
  have ka_3 := za_3.cell; have fa_3 := za_3.frozen; have la_3 := za_3.lt
  have kb_3 := zb_3.cell; have fb_3 := zb_3.frozen; have lb_3 := zb_3.lt
  clear rc
  go_wp2_with fail
  refine (uwrite_ok none 0 0 [] 47 _ Row.nil ⟨Nat.le_refl _, Nat.zero_le _⟩ (by omega) (by decide)).mono ?_
  rintro e w4 ⟨Ad, md, cd, xd, rfl, hcd, rd, HXd, b4⟩
  have Ld : xd.length ≤ 48 ∧ 48 ≤ xd.length := by rw [HXd.out]; decide
  obtain ⟨Ld1, Ld2⟩ := Ld
  replace rd := rd.mono (lo' := w3.heap.size + 1) (by go_size) (Nat.le_refl _)
  have s4 := b4.size
  try simp only [World.size_alloc, World.size_setCell, World.size_drew, size_drewN] at s4
  obtain ⟨za_4, zb_4, zc_4, ra_4, rb_4, rc_4, rd_4, bb_4⟩ : Blk w4 (w1.heap.size) 24 [.slice Aa ma ca, .int .i64 ((xa.length : Nat) : Int)] ∧ Blk w4 (w2.heap.size) 24 [.slice Ab mb cb, .int .i64 ((xb.length : Nat) : Int)] ∧ Blk w4 (w3.heap.size) 24 [.slice Ac mc cc, .int .i64 ((xc.length : Nat) : Int)] ∧ RowIn .u8 w4 (w.heap.size + 0) (w1.heap.size) Aa ma (pack xa) ∧ RowIn .u8 w4 (w1.heap.size + 1) (w2.heap.size) Ab mb (pack xb) ∧ RowIn .u8 w4 (w2.heap.size + 1) (w3.heap.size) Ac mc (pack xc) ∧ RowIn .u8 w4 (w3.heap.size + 1) (w4.heap.size) Ad md (pack xd) ∧ Below w.heap.size w w4 := by
    refine ⟨?_, ?_, ?_, ?_, ?_, ?_, ?_, ?_⟩
    all_goals repeat' (first | (with_reducible assumption) | (with_reducible exact Below.refl _ _) | (with_reducible refine Blk.after ?_ b4) | (with_reducible refine RowIn.belowS ?_ b4) | (with_reducible refine Below.after ?_ b4 ?_) | (with_reducible refine Blk.drewN ?_ _) | (with_reducible refine RowIn.drewN ?_ _) | (with_reducible refine below_drewN ?_ _) | (with_reducible refine Blk.drew ?_) | (with_reducible refine RowIn.drew ?_) | (with_reducible refine Below.drew ?_) | (with_reducible refine Blk.new' ?_ ?_ <;> first | (with_reducible rfl) | (simp; done)) | (with_reducible refine Blk.alloc ?_ _) | (with_reducible refine RowIn.alloc ?_ _) | (with_reducible refine Below.alloc ?_ ?_ _) | (with_reducible apply Blk.set') | (with_reducible refine Blk.far' ?_ ?_ _) | (with_reducible refine RowIn.far' ?_ ?_ _) | (with_reducible refine Below.far' ?_ ?_ _) | rfl | omega | go_size)
  clear za_3 zb_3 ra_3 rb_3 rc_3 bb_3 ka_3 fa_3 la_3 kb_3 fb_3 lb_3 b4
  have ka_4 := za_4.cell; have fa_4 := za_4.frozen; have la_4 := za_4.lt
  have kb_4 := zb_4.cell; have fb_4 := zb_4.frozen; have lb_4 := zb_4.lt
  have kc_4 := zc_4.cell; have fc_4 := zc_4.frozen; have lc_4 := zc_4.lt
  clear rd
  have ta : (((xa.length : Nat) : Int) == 1) = true := beq_iff_eq.2 (by omega)
  have tb : (((xb.length : Nat) : Int) == 4) = true := beq_iff_eq.2 (by omega)
  have tc : (((xc.length : Nat) : Int) == 48) = true := beq_iff_eq.2 (by omega)
  have td : (((xd.length : Nat) : Int) == 48) = true := beq_iff_eq.2 (by omega)
  have sca := run_str (P := Try.prog) (src := 22) (dst := 9) Try.underlying22 Try.underlying5 Try.underlying9 ca (ra_4.row.alloc (.cells #[.slice Ad md cd, .int .i64 ((xd.length : Nat) : Int)] 24))
  have sla : ((strOfNums (pack xa)).toList == [0]) = true := by rw [str_lit (pack_u8 _), HXa.out]; decide
  have scb := run_str (P := Try.prog) (src := 22) (dst := 9) Try.underlying22 Try.underlying5 Try.underlying9 cb (rb_4.row.alloc (.cells #[.slice Ad md cd, .int .i64 ((xd.length : Nat) : Int)] 24))
  have slb : ((strOfNums (pack xb)).toList == [7]) = true := by rw [str_lit (pack_u8 _), HXb.out]; decide
  have scc := run_str (P := Try.prog) (src := 22) (dst := 9) Try.underlying22 Try.underlying5 Try.underlying9 cc (rc_4.row.alloc (.cells #[.slice Ad md cd, .int .i64 ((xd.length : Nat) : Int)] 24))
  have slc : ((strOfNums (pack xc)).toList == [255, 255, 255, 255, 255, 255]) = true := by rw [str_lit (pack_u8 _), HXc.out]; decide
  have scd := run_str (P := Try.prog) (src := 22) (dst := 9) Try.underlying22 Try.underlying5 Try.underlying9 cd (rd_4.row.alloc (.cells #[.slice Ad md cd, .int .i64 ((xd.length : Nat) : Int)] 24))
  have sld : ((strOfNums (pack xd)).toList == [255, 255, 255, 255, 255, 127]) = true := by rw [str_lit (pack_u8 _), HXd.out]; decide
  go_wp2
  go_ret
  refine ⟨rfl, ?_⟩
  repeat' (first | (with_reducible assumption) | (with_reducible exact Below.refl _ _) | (with_reducible refine Blk.drewN ?_ _) | (with_reducible refine RowIn.drewN ?_ _) | (with_reducible refine below_drewN ?_ _) | (with_reducible refine Blk.drew ?_) | (with_reducible refine RowIn.drew ?_) | (with_reducible refine Below.drew ?_) | (with_reducible refine Blk.new' ?_ ?_ <;> first | (with_reducible rfl) | (simp; done)) | (with_reducible refine Blk.alloc ?_ _) | (with_reducible refine RowIn.alloc ?_ _) | (with_reducible refine Below.alloc ?_ ?_ _) | (with_reducible apply Blk.set') | (with_reducible refine Blk.far' ?_ ?_ _) | (with_reducible refine RowIn.far' ?_ ?_ _) | (with_reducible refine Below.far' ?_ ?_ _) | rfl | omega | go_size)


/-- No run begins another one. -/
theorem run_apart {n m : Nat} (hn : n ≤ 48) (hm : m ≤ 48) (h : n ≠ m) (K : Nat) (hK : K = min (runLen n) (runLen m)) : (run n).take K ≠ (run m).take K := by
  intro e
  have key : ∀ {a b : Nat}, a ≤ 48 → b ≤ 48 → runLen a ≤ runLen b → (run a).take (runLen a) = (run b).take (runLen a) → a = b := by
    intro a b ha hb hl e
    rw [List.take_of_length_le (by rw [run_len ha]; omega)] at e
    have h1 := readU_run ha ((run b).drop (runLen a))
    rw [e, List.take_append_drop] at h1
    have h2 := readU_run hb []
    rw [List.append_nil, h1] at h2
    injection h2
  rcases Nat.le_total (runLen n) (runLen m) with hl | hl
  · rw [show K = runLen n by omega] at e; exact h (key hn hm hl e)
  · rw [show K = runLen m by omega] at e; exact h (key hm hn hl e.symm).symm


set_option maxRecDepth 100000 in
set_option maxHeartbeats 1000000 in
theorem lawUnaryOrder (w : World) (n : Int) (hn : -9223372036854775808 ≤ n ∧ n ≤ 9223372036854775807) (m : Int) (hm : -9223372036854775808 ≤ m ∧ m ≤ 9223372036854775807) :
    Calls Try.prog 6 #[.int .i64 n, .int .i64 m] w fun e w' => e = .returned (.bool true) ∧ Below w.heap.size w w' := by
  by_cases h1 : n < 0
  · go_enter Try.func6, Try.ntmps6
    go_wp2_with fail
    refine (alive06 _).mono ?_
    rintro e w1 ⟨rfl, b1⟩
    have s1 := b1.size
    try simp only [World.size_alloc, World.size_setCell, World.size_drew, size_drewN] at s1
    have bb_1 : Below w.heap.size w w1 := by
      repeat' (first | (with_reducible assumption) | (with_reducible exact Below.refl _ _) | (with_reducible refine Blk.after ?_ b1) | (with_reducible refine RowIn.belowS ?_ b1) | (with_reducible refine Below.after ?_ b1 ?_) | (with_reducible refine Blk.drewN ?_ _) | (with_reducible refine RowIn.drewN ?_ _) | (with_reducible refine below_drewN ?_ _) | (with_reducible refine Blk.drew ?_) | (with_reducible refine RowIn.drew ?_) | (with_reducible refine Below.drew ?_) | (with_reducible refine Blk.new' ?_ ?_ <;> first | (with_reducible rfl) | (simp; done)) | (with_reducible refine Blk.alloc ?_ _) | (with_reducible refine RowIn.alloc ?_ _) | (with_reducible refine Below.alloc ?_ ?_ _) | (with_reducible apply Blk.set') | (with_reducible refine Blk.far' ?_ ?_ _) | (with_reducible refine RowIn.far' ?_ ?_ _) | (with_reducible refine Below.far' ?_ ?_ _) | rfl | omega | go_size)
    clear b1
    go_wp2
    go_ret
    refine ⟨rfl, ?_⟩
    repeat' (first | (with_reducible assumption) | (with_reducible exact Below.refl _ _) | (with_reducible refine Blk.drewN ?_ _) | (with_reducible refine RowIn.drewN ?_ _) | (with_reducible refine below_drewN ?_ _) | (with_reducible refine Blk.drew ?_) | (with_reducible refine RowIn.drew ?_) | (with_reducible refine Below.drew ?_) | (with_reducible refine Blk.new' ?_ ?_ <;> first | (with_reducible rfl) | (simp; done)) | (with_reducible refine Blk.alloc ?_ _) | (with_reducible refine RowIn.alloc ?_ _) | (with_reducible refine Below.alloc ?_ ?_ _) | (with_reducible apply Blk.set') | (with_reducible refine Blk.far' ?_ ?_ _) | (with_reducible refine RowIn.far' ?_ ?_ _) | (with_reducible refine Below.far' ?_ ?_ _) | rfl | omega | go_size)
  by_cases h2 : 48 < n
  · go_enter Try.func6, Try.ntmps6
    go_wp2_with fail
    refine (alive06 _).mono ?_
    rintro e w1 ⟨rfl, b1⟩
    have s1 := b1.size
    try simp only [World.size_alloc, World.size_setCell, World.size_drew, size_drewN] at s1
    have bb_1 : Below w.heap.size w w1 := by
      repeat' (first | (with_reducible assumption) | (with_reducible exact Below.refl _ _) | (with_reducible refine Blk.after ?_ b1) | (with_reducible refine RowIn.belowS ?_ b1) | (with_reducible refine Below.after ?_ b1 ?_) | (with_reducible refine Blk.drewN ?_ _) | (with_reducible refine RowIn.drewN ?_ _) | (with_reducible refine below_drewN ?_ _) | (with_reducible refine Blk.drew ?_) | (with_reducible refine RowIn.drew ?_) | (with_reducible refine Below.drew ?_) | (with_reducible refine Blk.new' ?_ ?_ <;> first | (with_reducible rfl) | (simp; done)) | (with_reducible refine Blk.alloc ?_ _) | (with_reducible refine RowIn.alloc ?_ _) | (with_reducible refine Below.alloc ?_ ?_ _) | (with_reducible apply Blk.set') | (with_reducible refine Blk.far' ?_ ?_ _) | (with_reducible refine RowIn.far' ?_ ?_ _) | (with_reducible refine Below.far' ?_ ?_ _) | rfl | omega | go_size)
    clear b1
    go_wp2
    go_ret
    refine ⟨rfl, ?_⟩
    repeat' (first | (with_reducible assumption) | (with_reducible exact Below.refl _ _) | (with_reducible refine Blk.drewN ?_ _) | (with_reducible refine RowIn.drewN ?_ _) | (with_reducible refine below_drewN ?_ _) | (with_reducible refine Blk.drew ?_) | (with_reducible refine RowIn.drew ?_) | (with_reducible refine Below.drew ?_) | (with_reducible refine Blk.new' ?_ ?_ <;> first | (with_reducible rfl) | (simp; done)) | (with_reducible refine Blk.alloc ?_ _) | (with_reducible refine RowIn.alloc ?_ _) | (with_reducible refine Below.alloc ?_ ?_ _) | (with_reducible apply Blk.set') | (with_reducible refine Blk.far' ?_ ?_ _) | (with_reducible refine RowIn.far' ?_ ?_ _) | (with_reducible refine Below.far' ?_ ?_ _) | rfl | omega | go_size)
  by_cases h3 : m < 0
  · go_enter Try.func6, Try.ntmps6
    go_wp2_with fail
    refine (alive06 _).mono ?_
    rintro e w1 ⟨rfl, b1⟩
    have s1 := b1.size
    try simp only [World.size_alloc, World.size_setCell, World.size_drew, size_drewN] at s1
    have bb_1 : Below w.heap.size w w1 := by
      repeat' (first | (with_reducible assumption) | (with_reducible exact Below.refl _ _) | (with_reducible refine Blk.after ?_ b1) | (with_reducible refine RowIn.belowS ?_ b1) | (with_reducible refine Below.after ?_ b1 ?_) | (with_reducible refine Blk.drewN ?_ _) | (with_reducible refine RowIn.drewN ?_ _) | (with_reducible refine below_drewN ?_ _) | (with_reducible refine Blk.drew ?_) | (with_reducible refine RowIn.drew ?_) | (with_reducible refine Below.drew ?_) | (with_reducible refine Blk.new' ?_ ?_ <;> first | (with_reducible rfl) | (simp; done)) | (with_reducible refine Blk.alloc ?_ _) | (with_reducible refine RowIn.alloc ?_ _) | (with_reducible refine Below.alloc ?_ ?_ _) | (with_reducible apply Blk.set') | (with_reducible refine Blk.far' ?_ ?_ _) | (with_reducible refine RowIn.far' ?_ ?_ _) | (with_reducible refine Below.far' ?_ ?_ _) | rfl | omega | go_size)
    clear b1
    go_wp2
    go_ret
    refine ⟨rfl, ?_⟩
    repeat' (first | (with_reducible assumption) | (with_reducible exact Below.refl _ _) | (with_reducible refine Blk.drewN ?_ _) | (with_reducible refine RowIn.drewN ?_ _) | (with_reducible refine below_drewN ?_ _) | (with_reducible refine Blk.drew ?_) | (with_reducible refine RowIn.drew ?_) | (with_reducible refine Below.drew ?_) | (with_reducible refine Blk.new' ?_ ?_ <;> first | (with_reducible rfl) | (simp; done)) | (with_reducible refine Blk.alloc ?_ _) | (with_reducible refine RowIn.alloc ?_ _) | (with_reducible refine Below.alloc ?_ ?_ _) | (with_reducible apply Blk.set') | (with_reducible refine Blk.far' ?_ ?_ _) | (with_reducible refine RowIn.far' ?_ ?_ _) | (with_reducible refine Below.far' ?_ ?_ _) | rfl | omega | go_size)
  by_cases h4 : 48 < m
  · go_enter Try.func6, Try.ntmps6
    go_wp2_with fail
    refine (alive06 _).mono ?_
    rintro e w1 ⟨rfl, b1⟩
    have s1 := b1.size
    try simp only [World.size_alloc, World.size_setCell, World.size_drew, size_drewN] at s1
    have bb_1 : Below w.heap.size w w1 := by
      repeat' (first | (with_reducible assumption) | (with_reducible exact Below.refl _ _) | (with_reducible refine Blk.after ?_ b1) | (with_reducible refine RowIn.belowS ?_ b1) | (with_reducible refine Below.after ?_ b1 ?_) | (with_reducible refine Blk.drewN ?_ _) | (with_reducible refine RowIn.drewN ?_ _) | (with_reducible refine below_drewN ?_ _) | (with_reducible refine Blk.drew ?_) | (with_reducible refine RowIn.drew ?_) | (with_reducible refine Below.drew ?_) | (with_reducible refine Blk.new' ?_ ?_ <;> first | (with_reducible rfl) | (simp; done)) | (with_reducible refine Blk.alloc ?_ _) | (with_reducible refine RowIn.alloc ?_ _) | (with_reducible refine Below.alloc ?_ ?_ _) | (with_reducible apply Blk.set') | (with_reducible refine Blk.far' ?_ ?_ _) | (with_reducible refine RowIn.far' ?_ ?_ _) | (with_reducible refine Below.far' ?_ ?_ _) | rfl | omega | go_size)
    clear b1
    go_wp2
    go_ret
    refine ⟨rfl, ?_⟩
    repeat' (first | (with_reducible assumption) | (with_reducible exact Below.refl _ _) | (with_reducible refine Blk.drewN ?_ _) | (with_reducible refine RowIn.drewN ?_ _) | (with_reducible refine below_drewN ?_ _) | (with_reducible refine Blk.drew ?_) | (with_reducible refine RowIn.drew ?_) | (with_reducible refine Below.drew ?_) | (with_reducible refine Blk.new' ?_ ?_ <;> first | (with_reducible rfl) | (simp; done)) | (with_reducible refine Blk.alloc ?_ _) | (with_reducible refine RowIn.alloc ?_ _) | (with_reducible refine Below.alloc ?_ ?_ _) | (with_reducible apply Blk.set') | (with_reducible refine Blk.far' ?_ ?_ _) | (with_reducible refine RowIn.far' ?_ ?_ _) | (with_reducible refine Below.far' ?_ ?_ _) | rfl | omega | go_size)
  by_cases h5 : n = m
  · have t0 : (n == m) = true := beq_iff_eq.2 h5
    clear h5
    go_enter Try.func6, Try.ntmps6
    go_wp2_with fail
    refine (alive06 _).mono ?_
    rintro e w1 ⟨rfl, b1⟩
    have s1 := b1.size
    try simp only [World.size_alloc, World.size_setCell, World.size_drew, size_drewN] at s1
    have bb_1 : Below w.heap.size w w1 := by
      repeat' (first | (with_reducible assumption) | (with_reducible exact Below.refl _ _) | (with_reducible refine Blk.after ?_ b1) | (with_reducible refine RowIn.belowS ?_ b1) | (with_reducible refine Below.after ?_ b1 ?_) | (with_reducible refine Blk.drewN ?_ _) | (with_reducible refine RowIn.drewN ?_ _) | (with_reducible refine below_drewN ?_ _) | (with_reducible refine Blk.drew ?_) | (with_reducible refine RowIn.drew ?_) | (with_reducible refine Below.drew ?_) | (with_reducible refine Blk.new' ?_ ?_ <;> first | (with_reducible rfl) | (simp; done)) | (with_reducible refine Blk.alloc ?_ _) | (with_reducible refine RowIn.alloc ?_ _) | (with_reducible refine Below.alloc ?_ ?_ _) | (with_reducible apply Blk.set') | (with_reducible refine Blk.far' ?_ ?_ _) | (with_reducible refine RowIn.far' ?_ ?_ _) | (with_reducible refine Below.far' ?_ ?_ _) | rfl | omega | go_size)
    clear b1
    go_wp2
    go_ret
    refine ⟨rfl, ?_⟩
    repeat' (first | (with_reducible assumption) | (with_reducible exact Below.refl _ _) | (with_reducible refine Blk.drewN ?_ _) | (with_reducible refine RowIn.drewN ?_ _) | (with_reducible refine below_drewN ?_ _) | (with_reducible refine Blk.drew ?_) | (with_reducible refine RowIn.drew ?_) | (with_reducible refine Below.drew ?_) | (with_reducible refine Blk.new' ?_ ?_ <;> first | (with_reducible rfl) | (simp; done)) | (with_reducible refine Blk.alloc ?_ _) | (with_reducible refine RowIn.alloc ?_ _) | (with_reducible refine Below.alloc ?_ ?_ _) | (with_reducible apply Blk.set') | (with_reducible refine Blk.far' ?_ ?_ _) | (with_reducible refine RowIn.far' ?_ ?_ _) | (with_reducible refine Below.far' ?_ ?_ _) | rfl | omega | go_size)
  have t0 : (n == m) = false := beq_eq_false_iff_ne.2 h5
  obtain ⟨n, rfl⟩ := Int.eq_ofNat_of_zero_le (by omega : 0 ≤ n)
  obtain ⟨m, rfl⟩ := Int.eq_ofNat_of_zero_le (by omega : 0 ≤ m)
  have hnm : n ≠ m := by omega
  have HNM := Lib.hid hnm
  have hn48 : n ≤ 48 := by omega
  have hm48 : m ≤ 48 := by omega
  clear h5 hnm
  go_enter Try.func6, Try.ntmps6
  go_wp2_with fail
  refine (ulen_ok (n : Nat) _ (by omega) (by omega)).mono ?_
  rintro e _ ⟨a, rfl, HA, rfl⟩
  go_wp2_with fail
  refine (ulen_ok (m : Nat) _ (by omega) (by omega)).mono ?_
  rintro e _ ⟨b, rfl, HB, rfl⟩
  rw [Int.toNat_natCast] at HA HB
  have ha48 : a ≤ 48 := by rw [HA.out]; unfold runLen; omega
  have hb48 : b ≤ 48 := by rw [HB.out]; unfold runLen; omega
  go_wp2_with fail
  refine (uwrite_ok none 0 0 [] (n : Nat) _ Row.nil ⟨Nat.le_refl _, Nat.zero_le _⟩ (by omega) (by rw [Int.toNat_natCast, ← HA.out]; simp; omega)).mono ?_
  rintro e w1 ⟨Ax, mx, cx, xx, rfl, hcx, rx, HXx, b1⟩
  have Lx : xx.length ≤ a ∧ a ≤ xx.length := by rw [HXx.out]; rw [Int.toNat_natCast, List.nil_append, run_len (by omega)]; have := HA.out; omega
  obtain ⟨Lx1, Lx2⟩ := Lx
  replace rx := rx.mono (lo' := w.heap.size + 0) (by go_size) (Nat.le_refl _)
  have s1 := b1.size
  try simp only [World.size_alloc, World.size_setCell, World.size_drew, size_drewN] at s1
  obtain ⟨rx_1, bb_1⟩ : RowIn .u8 w1 (w.heap.size + 0) (w1.heap.size) Ax mx (pack xx) ∧ Below w.heap.size w w1 := by
    refine ⟨?_, ?_⟩
    all_goals repeat' (first | (with_reducible assumption) | (with_reducible exact Below.refl _ _) | (with_reducible refine Blk.after ?_ b1) | (with_reducible refine RowIn.belowS ?_ b1) | (with_reducible refine Below.after ?_ b1 ?_) | (with_reducible refine Blk.drewN ?_ _) | (with_reducible refine RowIn.drewN ?_ _) | (with_reducible refine below_drewN ?_ _) | (with_reducible refine Blk.drew ?_) | (with_reducible refine RowIn.drew ?_) | (with_reducible refine Below.drew ?_) | (with_reducible refine Blk.new' ?_ ?_ <;> first | (with_reducible rfl) | (simp; done)) | (with_reducible refine Blk.alloc ?_ _) | (with_reducible refine RowIn.alloc ?_ _) | (with_reducible refine Below.alloc ?_ ?_ _) | (with_reducible apply Blk.set') | (with_reducible refine Blk.far' ?_ ?_ _) | (with_reducible refine RowIn.far' ?_ ?_ _) | (with_reducible refine Below.far' ?_ ?_ _) | rfl | omega | go_size)
  clear b1
  clear rx
  go_wp2_with fail
  refine (uwrite_ok none 0 0 [] (m : Nat) _ Row.nil ⟨Nat.le_refl _, Nat.zero_le _⟩ (by omega) (by rw [Int.toNat_natCast, ← HB.out]; simp; omega)).mono ?_
  rintro e w2 ⟨Ay, my, cy, xy, rfl, hcy, ry, HXy, b2⟩
  have Ly : xy.length ≤ b ∧ b ≤ xy.length := by rw [HXy.out]; rw [Int.toNat_natCast, List.nil_append, run_len (by omega)]; have := HB.out; omega
  obtain ⟨Ly1, Ly2⟩ := Ly
  replace ry := ry.mono (lo' := w1.heap.size + 1) (by go_size) (Nat.le_refl _)
  have s2 := b2.size
  try simp only [World.size_alloc, World.size_setCell, World.size_drew, size_drewN] at s2
  obtain ⟨zx_2, rx_2, ry_2, bb_2⟩ : Blk w2 (w1.heap.size) 24 [.slice Ax mx cx, .int .i64 ((xx.length : Nat) : Int)] ∧ RowIn .u8 w2 (w.heap.size + 0) (w1.heap.size) Ax mx (pack xx) ∧ RowIn .u8 w2 (w1.heap.size + 1) (w2.heap.size) Ay my (pack xy) ∧ Below w.heap.size w w2 := by
    refine ⟨?_, ?_, ?_, ?_⟩
    all_goals repeat' (first | (with_reducible assumption) | (with_reducible exact Below.refl _ _) | (with_reducible refine Blk.after ?_ b2) | (with_reducible refine RowIn.belowS ?_ b2) | (with_reducible refine Below.after ?_ b2 ?_) | (with_reducible refine Blk.drewN ?_ _) | (with_reducible refine RowIn.drewN ?_ _) | (with_reducible refine below_drewN ?_ _) | (with_reducible refine Blk.drew ?_) | (with_reducible refine RowIn.drew ?_) | (with_reducible refine Below.drew ?_) | (with_reducible refine Blk.new' ?_ ?_ <;> first | (with_reducible rfl) | (simp; done)) | (with_reducible refine Blk.alloc ?_ _) | (with_reducible refine RowIn.alloc ?_ _) | (with_reducible refine Below.alloc ?_ ?_ _) | (with_reducible apply Blk.set') | (with_reducible refine Blk.far' ?_ ?_ _) | (with_reducible refine RowIn.far' ?_ ?_ _) | (with_reducible refine Below.far' ?_ ?_ _) | rfl | omega | go_size)
  clear rx_1 bb_1 b2
  have kx_2 := zx_2.cell; have fx_2 := zx_2.frozen; have lx_2 := zx_2.lt
  clear ry
  have t1 : (((xx.length : Nat) : Int) != (a : Int)) = false := by rw [bne_eq_false_iff_eq]; omega
  have t2 : (((xy.length : Nat) : Int) != (b : Int)) = false := by rw [bne_eq_false_iff_eq]; omega
  by_cases hlt : n < m
  · have haa : a = n + 1 := by rw [HA.out]; unfold runLen; omega
    have HAA := Lib.hid haa
    clear haa
    by_cases hc : n = 47 ∧ m = 48
    · have hab1 : a = 48 ∧ b = 48 := by have h1 := HA.out; have h2 := HB.out; unfold runLen at h1 h2; omega
      have hn47 : n ≤ 47 ∧ 47 ≤ n ∧ m ≤ 48 ∧ 48 ≤ m ∧ a ≤ b ∧ b ≤ a := by omega
      obtain ⟨hc1, hc2, hc3, hc4, hc5, hc6⟩ := hn47
      clear hab1 hc
      have hab : a ≤ b := by omega
      have t3 : ((a : Int) == (b : Int)) = true := beq_iff_eq.2 (by omega)
      have t4 : ((n : Int) != 47) = false := by rw [bne_eq_false_iff_eq]; omega
      have t5 : ((m : Int) != 48) = false := by rw [bne_eq_false_iff_eq]; omega
      go_wp2_with fail
      refine (bcut_ok Ax mx cx xx _ _ _ (by exact (rx_2.row.alloc _)) hcx (by omega) (by omega) (by omega) (by omega)).mono ?_
      rintro e w3 ⟨Ap, mp, cp, xp, rfl, hcp, rp, HXp, b3⟩
      have Lp : xp.length ≤ a ∧ a ≤ xp.length := by rw [HXp.out]; rw [List.length_take, List.length_drop]; omega
      obtain ⟨Lp1, Lp2⟩ := Lp
      replace rp := rp.mono (lo' := w2.heap.size + 1) (by go_size) (Nat.le_refl _)
      have s3 := b3.size
      try simp only [World.size_alloc, World.size_setCell, World.size_drew, size_drewN] at s3
      obtain ⟨zx_3, zy_3, rx_3, ry_3, rp_3, bb_3⟩ : Blk w3 (w1.heap.size) 24 [.slice Ax mx cx, .int .i64 ((xx.length : Nat) : Int)] ∧ Blk w3 (w2.heap.size) 24 [.slice Ay my cy, .int .i64 ((xy.length : Nat) : Int)] ∧ RowIn .u8 w3 (w.heap.size + 0) (w1.heap.size) Ax mx (pack xx) ∧ RowIn .u8 w3 (w1.heap.size + 1) (w2.heap.size) Ay my (pack xy) ∧ RowIn .u8 w3 (w2.heap.size + 1) (w3.heap.size) Ap mp (pack xp) ∧ Below w.heap.size w w3 := by
        refine ⟨?_, ?_, ?_, ?_, ?_, ?_⟩
        all_goals repeat' (first | (with_reducible assumption) | (with_reducible exact Below.refl _ _) | (with_reducible refine Blk.after ?_ b3) | (with_reducible refine RowIn.belowS ?_ b3) | (with_reducible refine Below.after ?_ b3 ?_) | (with_reducible refine Blk.drewN ?_ _) | (with_reducible refine RowIn.drewN ?_ _) | (with_reducible refine below_drewN ?_ _) | (with_reducible refine Blk.drew ?_) | (with_reducible refine RowIn.drew ?_) | (with_reducible refine Below.drew ?_) | (with_reducible refine Blk.new' ?_ ?_ <;> first | (with_reducible rfl) | (simp; done)) | (with_reducible refine Blk.alloc ?_ _) | (with_reducible refine RowIn.alloc ?_ _) | (with_reducible refine Below.alloc ?_ ?_ _) | (with_reducible apply Blk.set') | (with_reducible refine Blk.far' ?_ ?_ _) | (with_reducible refine RowIn.far' ?_ ?_ _) | (with_reducible refine Below.far' ?_ ?_ _) | rfl | omega | go_size)
      clear zx_2 rx_2 ry_2 bb_2 kx_2 fx_2 lx_2 b3
      have kx_3 := zx_3.cell; have fx_3 := zx_3.frozen; have lx_3 := zx_3.lt
      have ky_3 := zy_3.cell; have fy_3 := zy_3.frozen; have ly_3 := zy_3.lt
      clear rp
      go_wp2_with fail
      refine (bcut_ok Ay my cy xy _ _ _ (by exact (ry_3.row.alloc _)) hcy (by omega) (by omega) (by omega) (by omega)).mono ?_
      rintro e w4 ⟨Aq, mq, cq, xq, rfl, hcq, rq, HXq, b4⟩
      have Lq : xq.length ≤ a ∧ a ≤ xq.length := by rw [HXq.out]; rw [List.length_take, List.length_drop]; omega
      obtain ⟨Lq1, Lq2⟩ := Lq
      replace rq := rq.mono (lo' := w3.heap.size + 1) (by go_size) (Nat.le_refl _)
      have s4 := b4.size
      try simp only [World.size_alloc, World.size_setCell, World.size_drew, size_drewN] at s4
      obtain ⟨zx_4, zy_4, zp_4, rx_4, ry_4, rp_4, rq_4, bb_4⟩ : Blk w4 (w1.heap.size) 24 [.slice Ax mx cx, .int .i64 ((xx.length : Nat) : Int)] ∧ Blk w4 (w2.heap.size) 24 [.slice Ay my cy, .int .i64 ((xy.length : Nat) : Int)] ∧ Blk w4 (w3.heap.size) 24 [.slice Ap mp cp, .int .i64 ((xp.length : Nat) : Int)] ∧ RowIn .u8 w4 (w.heap.size + 0) (w1.heap.size) Ax mx (pack xx) ∧ RowIn .u8 w4 (w1.heap.size + 1) (w2.heap.size) Ay my (pack xy) ∧ RowIn .u8 w4 (w2.heap.size + 1) (w3.heap.size) Ap mp (pack xp) ∧ RowIn .u8 w4 (w3.heap.size + 1) (w4.heap.size) Aq mq (pack xq) ∧ Below w.heap.size w w4 := by
        refine ⟨?_, ?_, ?_, ?_, ?_, ?_, ?_, ?_⟩
        all_goals repeat' (first | (with_reducible assumption) | (with_reducible exact Below.refl _ _) | (with_reducible refine Blk.after ?_ b4) | (with_reducible refine RowIn.belowS ?_ b4) | (with_reducible refine Below.after ?_ b4 ?_) | (with_reducible refine Blk.drewN ?_ _) | (with_reducible refine RowIn.drewN ?_ _) | (with_reducible refine below_drewN ?_ _) | (with_reducible refine Blk.drew ?_) | (with_reducible refine RowIn.drew ?_) | (with_reducible refine Below.drew ?_) | (with_reducible refine Blk.new' ?_ ?_ <;> first | (with_reducible rfl) | (simp; done)) | (with_reducible refine Blk.alloc ?_ _) | (with_reducible refine RowIn.alloc ?_ _) | (with_reducible refine Below.alloc ?_ ?_ _) | (with_reducible apply Blk.set') | (with_reducible refine Blk.far' ?_ ?_ _) | (with_reducible refine RowIn.far' ?_ ?_ _) | (with_reducible refine Below.far' ?_ ?_ _) | rfl | omega | go_size)
      clear zx_3 zy_3 rx_3 ry_3 rp_3 bb_3 kx_3 fx_3 lx_3 ky_3 fy_3 ly_3 b4
      have kx_4 := zx_4.cell; have fx_4 := zx_4.frozen; have lx_4 := zx_4.lt
      have ky_4 := zy_4.cell; have fy_4 := zy_4.frozen; have ly_4 := zy_4.lt
      have kp_4 := zp_4.cell; have fp_4 := zp_4.frozen; have lp_4 := zp_4.lt
      clear rq
      have HE : Hid (¬ (((xp.length : Nat) : Int) = ((xq.length : Nat) : Int) ∧ pack xp = pack xq)) := by
        refine Lib.hid ?_
        rintro ⟨_, h⟩
        have h2 := pack_inj (by omega) h
        rw [HXp.out, HXq.out, HXx.out, HXy.out] at h2
        simp only [Int.toNat_natCast, List.nil_append, show ((0 : Int).toNat) = 0 from rfl, List.drop_zero, Nat.sub_zero] at h2
        exact run_apart hn48 hm48 HNM.out _ (by have := HA.out; have := HB.out; omega) h2
      go_wp2_with fail
      refine (rsame_ne Ap Aq mp mq cp cq _ _ _ _ _ (by exact (rp_4.row.alloc _)) (by exact (rq_4.row.alloc _)) (pack_u8 _) (pack_u8 _) HE.out).mono ?_
      rintro e w5 ⟨rfl, b5⟩
      have s5 := b5.size
      try simp only [World.size_alloc, World.size_setCell, World.size_drew, size_drewN] at s5
      obtain ⟨zx_5, zy_5, zp_5, zq_5, rx_5, ry_5, rp_5, rq_5, bb_5⟩ : Blk w5 (w1.heap.size) 24 [.slice Ax mx cx, .int .i64 ((xx.length : Nat) : Int)] ∧ Blk w5 (w2.heap.size) 24 [.slice Ay my cy, .int .i64 ((xy.length : Nat) : Int)] ∧ Blk w5 (w3.heap.size) 24 [.slice Ap mp cp, .int .i64 ((xp.length : Nat) : Int)] ∧ Blk w5 (w4.heap.size) 24 [.slice Aq mq cq, .int .i64 ((xq.length : Nat) : Int)] ∧ RowIn .u8 w5 (w.heap.size + 0) (w1.heap.size) Ax mx (pack xx) ∧ RowIn .u8 w5 (w1.heap.size + 1) (w2.heap.size) Ay my (pack xy) ∧ RowIn .u8 w5 (w2.heap.size + 1) (w3.heap.size) Ap mp (pack xp) ∧ RowIn .u8 w5 (w3.heap.size + 1) (w4.heap.size) Aq mq (pack xq) ∧ Below w.heap.size w w5 := by
        refine ⟨?_, ?_, ?_, ?_, ?_, ?_, ?_, ?_, ?_⟩
        all_goals repeat' (first | (with_reducible assumption) | (with_reducible exact Below.refl _ _) | (with_reducible refine Blk.after ?_ b5) | (with_reducible refine RowIn.belowS ?_ b5) | (with_reducible refine Below.after ?_ b5 ?_) | (with_reducible refine Blk.drewN ?_ _) | (with_reducible refine RowIn.drewN ?_ _) | (with_reducible refine below_drewN ?_ _) | (with_reducible refine Blk.drew ?_) | (with_reducible refine RowIn.drew ?_) | (with_reducible refine Below.drew ?_) | (with_reducible refine Blk.new' ?_ ?_ <;> first | (with_reducible rfl) | (simp; done)) | (with_reducible refine Blk.alloc ?_ _) | (with_reducible refine RowIn.alloc ?_ _) | (with_reducible refine Below.alloc ?_ ?_ _) | (with_reducible apply Blk.set') | (with_reducible refine Blk.far' ?_ ?_ _) | (with_reducible refine RowIn.far' ?_ ?_ _) | (with_reducible refine Below.far' ?_ ?_ _) | rfl | omega | go_size)
      clear zx_4 zy_4 zp_4 rx_4 ry_4 rp_4 rq_4 bb_4 kx_4 fx_4 lx_4 ky_4 fy_4 ly_4 kp_4 fp_4 lp_4 b5
      have kx_5 := zx_5.cell; have fx_5 := zx_5.frozen; have lx_5 := zx_5.lt
      have ky_5 := zy_5.cell; have fy_5 := zy_5.frozen; have ly_5 := zy_5.lt
      have kp_5 := zp_5.cell; have fp_5 := zp_5.frozen; have lp_5 := zp_5.lt
      have kq_5 := zq_5.cell; have fq_5 := zq_5.frozen; have lq_5 := zq_5.lt
      go_wp2_with fail
      refine (alive06 _).mono ?_
      rintro e w6 ⟨rfl, b6⟩
      have s6 := b6.size
      try simp only [World.size_alloc, World.size_setCell, World.size_drew, size_drewN] at s6
      have bb_6 : Below w.heap.size w w6 := by
        repeat' (first | (with_reducible assumption) | (with_reducible exact Below.refl _ _) | (with_reducible refine Blk.after ?_ b6) | (with_reducible refine RowIn.belowS ?_ b6) | (with_reducible refine Below.after ?_ b6 ?_) | (with_reducible refine Blk.drewN ?_ _) | (with_reducible refine RowIn.drewN ?_ _) | (with_reducible refine below_drewN ?_ _) | (with_reducible refine Blk.drew ?_) | (with_reducible refine RowIn.drew ?_) | (with_reducible refine Below.drew ?_) | (with_reducible refine Blk.new' ?_ ?_ <;> first | (with_reducible rfl) | (simp; done)) | (with_reducible refine Blk.alloc ?_ _) | (with_reducible refine RowIn.alloc ?_ _) | (with_reducible refine Below.alloc ?_ ?_ _) | (with_reducible apply Blk.set') | (with_reducible refine Blk.far' ?_ ?_ _) | (with_reducible refine RowIn.far' ?_ ?_ _) | (with_reducible refine Below.far' ?_ ?_ _) | rfl | omega | go_size)
      clear zx_5 zy_5 zp_5 zq_5 rx_5 ry_5 rp_5 rq_5 bb_5 kx_5 fx_5 lx_5 ky_5 fy_5 ly_5 kp_5 fp_5 lp_5 kq_5 fq_5 lq_5 b6
      go_wp2
      go_ret
      refine ⟨rfl, ?_⟩
      repeat' (first | (with_reducible assumption) | (with_reducible exact Below.refl _ _) | (with_reducible refine Blk.drewN ?_ _) | (with_reducible refine RowIn.drewN ?_ _) | (with_reducible refine below_drewN ?_ _) | (with_reducible refine Blk.drew ?_) | (with_reducible refine RowIn.drew ?_) | (with_reducible refine Below.drew ?_) | (with_reducible refine Blk.new' ?_ ?_ <;> first | (with_reducible rfl) | (simp; done)) | (with_reducible refine Blk.alloc ?_ _) | (with_reducible refine RowIn.alloc ?_ _) | (with_reducible refine Below.alloc ?_ ?_ _) | (with_reducible apply Blk.set') | (with_reducible refine Blk.far' ?_ ?_ _) | (with_reducible refine RowIn.far' ?_ ?_ _) | (with_reducible refine Below.far' ?_ ?_ _) | rfl | omega | go_size)
    · have hab : a < b := by have := HA.out; have := HB.out; unfold runLen at *; omega
      have t3 : ((a : Int) == (b : Int)) = false := beq_eq_false_iff_ne.2 (by omega)
      clear hc
      go_wp2_with fail
      refine (bcut_ok Ax mx cx xx _ _ _ (by exact (rx_2.row.alloc _)) hcx (by omega) (by omega) (by omega) (by omega)).mono ?_
      rintro e w3 ⟨Ap, mp, cp, xp, rfl, hcp, rp, HXp, b3⟩
      have Lp : xp.length ≤ a ∧ a ≤ xp.length := by rw [HXp.out]; rw [List.length_take, List.length_drop]; omega
      obtain ⟨Lp1, Lp2⟩ := Lp
      replace rp := rp.mono (lo' := w2.heap.size + 1) (by go_size) (Nat.le_refl _)
      have s3 := b3.size
      try simp only [World.size_alloc, World.size_setCell, World.size_drew, size_drewN] at s3
      obtain ⟨zx_3, zy_3, rx_3, ry_3, rp_3, bb_3⟩ : Blk w3 (w1.heap.size) 24 [.slice Ax mx cx, .int .i64 ((xx.length : Nat) : Int)] ∧ Blk w3 (w2.heap.size) 24 [.slice Ay my cy, .int .i64 ((xy.length : Nat) : Int)] ∧ RowIn .u8 w3 (w.heap.size + 0) (w1.heap.size) Ax mx (pack xx) ∧ RowIn .u8 w3 (w1.heap.size + 1) (w2.heap.size) Ay my (pack xy) ∧ RowIn .u8 w3 (w2.heap.size + 1) (w3.heap.size) Ap mp (pack xp) ∧ Below w.heap.size w w3 := by
        refine ⟨?_, ?_, ?_, ?_, ?_, ?_⟩
        all_goals repeat' (first | (with_reducible assumption) | (with_reducible exact Below.refl _ _) | (with_reducible refine Blk.after ?_ b3) | (with_reducible refine RowIn.belowS ?_ b3) | (with_reducible refine Below.after ?_ b3 ?_) | (with_reducible refine Blk.drewN ?_ _) | (with_reducible refine RowIn.drewN ?_ _) | (with_reducible refine below_drewN ?_ _) | (with_reducible refine Blk.drew ?_) | (with_reducible refine RowIn.drew ?_) | (with_reducible refine Below.drew ?_) | (with_reducible refine Blk.new' ?_ ?_ <;> first | (with_reducible rfl) | (simp; done)) | (with_reducible refine Blk.alloc ?_ _) | (with_reducible refine RowIn.alloc ?_ _) | (with_reducible refine Below.alloc ?_ ?_ _) | (with_reducible apply Blk.set') | (with_reducible refine Blk.far' ?_ ?_ _) | (with_reducible refine RowIn.far' ?_ ?_ _) | (with_reducible refine Below.far' ?_ ?_ _) | rfl | omega | go_size)
      clear zx_2 rx_2 ry_2 bb_2 kx_2 fx_2 lx_2 b3
      have kx_3 := zx_3.cell; have fx_3 := zx_3.frozen; have lx_3 := zx_3.lt
      have ky_3 := zy_3.cell; have fy_3 := zy_3.frozen; have ly_3 := zy_3.lt
      clear rp
      go_wp2_with fail
      refine (bcut_ok Ay my cy xy _ _ _ (by exact (ry_3.row.alloc _)) hcy (by omega) (by omega) (by omega) (by omega)).mono ?_
      rintro e w4 ⟨Aq, mq, cq, xq, rfl, hcq, rq, HXq, b4⟩
      have Lq : xq.length ≤ a ∧ a ≤ xq.length := by rw [HXq.out]; rw [List.length_take, List.length_drop]; omega
      obtain ⟨Lq1, Lq2⟩ := Lq
      replace rq := rq.mono (lo' := w3.heap.size + 1) (by go_size) (Nat.le_refl _)
      have s4 := b4.size
      try simp only [World.size_alloc, World.size_setCell, World.size_drew, size_drewN] at s4
      obtain ⟨zx_4, zy_4, zp_4, rx_4, ry_4, rp_4, rq_4, bb_4⟩ : Blk w4 (w1.heap.size) 24 [.slice Ax mx cx, .int .i64 ((xx.length : Nat) : Int)] ∧ Blk w4 (w2.heap.size) 24 [.slice Ay my cy, .int .i64 ((xy.length : Nat) : Int)] ∧ Blk w4 (w3.heap.size) 24 [.slice Ap mp cp, .int .i64 ((xp.length : Nat) : Int)] ∧ RowIn .u8 w4 (w.heap.size + 0) (w1.heap.size) Ax mx (pack xx) ∧ RowIn .u8 w4 (w1.heap.size + 1) (w2.heap.size) Ay my (pack xy) ∧ RowIn .u8 w4 (w2.heap.size + 1) (w3.heap.size) Ap mp (pack xp) ∧ RowIn .u8 w4 (w3.heap.size + 1) (w4.heap.size) Aq mq (pack xq) ∧ Below w.heap.size w w4 := by
        refine ⟨?_, ?_, ?_, ?_, ?_, ?_, ?_, ?_⟩
        all_goals repeat' (first | (with_reducible assumption) | (with_reducible exact Below.refl _ _) | (with_reducible refine Blk.after ?_ b4) | (with_reducible refine RowIn.belowS ?_ b4) | (with_reducible refine Below.after ?_ b4 ?_) | (with_reducible refine Blk.drewN ?_ _) | (with_reducible refine RowIn.drewN ?_ _) | (with_reducible refine below_drewN ?_ _) | (with_reducible refine Blk.drew ?_) | (with_reducible refine RowIn.drew ?_) | (with_reducible refine Below.drew ?_) | (with_reducible refine Blk.new' ?_ ?_ <;> first | (with_reducible rfl) | (simp; done)) | (with_reducible refine Blk.alloc ?_ _) | (with_reducible refine RowIn.alloc ?_ _) | (with_reducible refine Below.alloc ?_ ?_ _) | (with_reducible apply Blk.set') | (with_reducible refine Blk.far' ?_ ?_ _) | (with_reducible refine RowIn.far' ?_ ?_ _) | (with_reducible refine Below.far' ?_ ?_ _) | rfl | omega | go_size)
      clear zx_3 zy_3 rx_3 ry_3 rp_3 bb_3 kx_3 fx_3 lx_3 ky_3 fy_3 ly_3 b4
      have kx_4 := zx_4.cell; have fx_4 := zx_4.frozen; have lx_4 := zx_4.lt
      have ky_4 := zy_4.cell; have fy_4 := zy_4.frozen; have ly_4 := zy_4.lt
      have kp_4 := zp_4.cell; have fp_4 := zp_4.frozen; have lp_4 := zp_4.lt
      clear rq
      have HE : Hid (¬ (((xp.length : Nat) : Int) = ((xq.length : Nat) : Int) ∧ pack xp = pack xq)) := by
        refine Lib.hid ?_
        rintro ⟨_, h⟩
        have h2 := pack_inj (by omega) h
        rw [HXp.out, HXq.out, HXx.out, HXy.out] at h2
        simp only [Int.toNat_natCast, List.nil_append, show ((0 : Int).toNat) = 0 from rfl, List.drop_zero, Nat.sub_zero] at h2
        exact run_apart hn48 hm48 HNM.out _ (by have := HA.out; have := HB.out; omega) h2
      go_wp2_with fail
      refine (rsame_ne Ap Aq mp mq cp cq _ _ _ _ _ (by exact (rp_4.row.alloc _)) (by exact (rq_4.row.alloc _)) (pack_u8 _) (pack_u8 _) HE.out).mono ?_
      rintro e w5 ⟨rfl, b5⟩
      have s5 := b5.size
      try simp only [World.size_alloc, World.size_setCell, World.size_drew, size_drewN] at s5
      obtain ⟨zx_5, zy_5, zp_5, zq_5, rx_5, ry_5, rp_5, rq_5, bb_5⟩ : Blk w5 (w1.heap.size) 24 [.slice Ax mx cx, .int .i64 ((xx.length : Nat) : Int)] ∧ Blk w5 (w2.heap.size) 24 [.slice Ay my cy, .int .i64 ((xy.length : Nat) : Int)] ∧ Blk w5 (w3.heap.size) 24 [.slice Ap mp cp, .int .i64 ((xp.length : Nat) : Int)] ∧ Blk w5 (w4.heap.size) 24 [.slice Aq mq cq, .int .i64 ((xq.length : Nat) : Int)] ∧ RowIn .u8 w5 (w.heap.size + 0) (w1.heap.size) Ax mx (pack xx) ∧ RowIn .u8 w5 (w1.heap.size + 1) (w2.heap.size) Ay my (pack xy) ∧ RowIn .u8 w5 (w2.heap.size + 1) (w3.heap.size) Ap mp (pack xp) ∧ RowIn .u8 w5 (w3.heap.size + 1) (w4.heap.size) Aq mq (pack xq) ∧ Below w.heap.size w w5 := by
        refine ⟨?_, ?_, ?_, ?_, ?_, ?_, ?_, ?_, ?_⟩
        all_goals repeat' (first | (with_reducible assumption) | (with_reducible exact Below.refl _ _) | (with_reducible refine Blk.after ?_ b5) | (with_reducible refine RowIn.belowS ?_ b5) | (with_reducible refine Below.after ?_ b5 ?_) | (with_reducible refine Blk.drewN ?_ _) | (with_reducible refine RowIn.drewN ?_ _) | (with_reducible refine below_drewN ?_ _) | (with_reducible refine Blk.drew ?_) | (with_reducible refine RowIn.drew ?_) | (with_reducible refine Below.drew ?_) | (with_reducible refine Blk.new' ?_ ?_ <;> first | (with_reducible rfl) | (simp; done)) | (with_reducible refine Blk.alloc ?_ _) | (with_reducible refine RowIn.alloc ?_ _) | (with_reducible refine Below.alloc ?_ ?_ _) | (with_reducible apply Blk.set') | (with_reducible refine Blk.far' ?_ ?_ _) | (with_reducible refine RowIn.far' ?_ ?_ _) | (with_reducible refine Below.far' ?_ ?_ _) | rfl | omega | go_size)
      clear zx_4 zy_4 zp_4 rx_4 ry_4 rp_4 rq_4 bb_4 kx_4 fx_4 lx_4 ky_4 fy_4 ly_4 kp_4 fp_4 lp_4 b5
      have kx_5 := zx_5.cell; have fx_5 := zx_5.frozen; have lx_5 := zx_5.lt
      have ky_5 := zy_5.cell; have fy_5 := zy_5.frozen; have ly_5 := zy_5.lt
      have kp_5 := zp_5.cell; have fp_5 := zp_5.frozen; have lp_5 := zp_5.lt
      have kq_5 := zq_5.cell; have fq_5 := zq_5.frozen; have lq_5 := zq_5.lt
      go_wp2_with fail
      refine (alive06 _).mono ?_
      rintro e w6 ⟨rfl, b6⟩
      have s6 := b6.size
      try simp only [World.size_alloc, World.size_setCell, World.size_drew, size_drewN] at s6
      have bb_6 : Below w.heap.size w w6 := by
        repeat' (first | (with_reducible assumption) | (with_reducible exact Below.refl _ _) | (with_reducible refine Blk.after ?_ b6) | (with_reducible refine RowIn.belowS ?_ b6) | (with_reducible refine Below.after ?_ b6 ?_) | (with_reducible refine Blk.drewN ?_ _) | (with_reducible refine RowIn.drewN ?_ _) | (with_reducible refine below_drewN ?_ _) | (with_reducible refine Blk.drew ?_) | (with_reducible refine RowIn.drew ?_) | (with_reducible refine Below.drew ?_) | (with_reducible refine Blk.new' ?_ ?_ <;> first | (with_reducible rfl) | (simp; done)) | (with_reducible refine Blk.alloc ?_ _) | (with_reducible refine RowIn.alloc ?_ _) | (with_reducible refine Below.alloc ?_ ?_ _) | (with_reducible apply Blk.set') | (with_reducible refine Blk.far' ?_ ?_ _) | (with_reducible refine RowIn.far' ?_ ?_ _) | (with_reducible refine Below.far' ?_ ?_ _) | rfl | omega | go_size)
      clear zx_5 zy_5 zp_5 zq_5 rx_5 ry_5 rp_5 rq_5 bb_5 kx_5 fx_5 lx_5 ky_5 fy_5 ly_5 kp_5 fp_5 lp_5 kq_5 fq_5 lq_5 b6
      go_wp2
      go_ret
      refine ⟨rfl, ?_⟩
      repeat' (first | (with_reducible assumption) | (with_reducible exact Below.refl _ _) | (with_reducible refine Blk.drewN ?_ _) | (with_reducible refine RowIn.drewN ?_ _) | (with_reducible refine below_drewN ?_ _) | (with_reducible refine Blk.drew ?_) | (with_reducible refine RowIn.drew ?_) | (with_reducible refine Below.drew ?_) | (with_reducible refine Blk.new' ?_ ?_ <;> first | (with_reducible rfl) | (simp; done)) | (with_reducible refine Blk.alloc ?_ _) | (with_reducible refine RowIn.alloc ?_ _) | (with_reducible refine Below.alloc ?_ ?_ _) | (with_reducible apply Blk.set') | (with_reducible refine Blk.far' ?_ ?_ _) | (with_reducible refine RowIn.far' ?_ ?_ _) | (with_reducible refine Below.far' ?_ ?_ _) | rfl | omega | go_size)
  · by_cases hc : a = b
    · have hc1 : a ≤ b := by omega
      have hc2 : b ≤ a := by omega
      clear hc
      go_wp2_with fail
      refine (bcut_ok Ax mx cx xx _ _ _ (by exact (rx_2.row.alloc _)) hcx (by omega) (by omega) (by omega) (by omega)).mono ?_
      rintro e w3 ⟨Ap, mp, cp, xp, rfl, hcp, rp, HXp, b3⟩
      have Lp : xp.length ≤ a ∧ a ≤ xp.length := by rw [HXp.out]; rw [List.length_take, List.length_drop]; omega
      obtain ⟨Lp1, Lp2⟩ := Lp
      replace rp := rp.mono (lo' := w2.heap.size + 1) (by go_size) (Nat.le_refl _)
      have s3 := b3.size
      try simp only [World.size_alloc, World.size_setCell, World.size_drew, size_drewN] at s3
      obtain ⟨zx_3, zy_3, rx_3, ry_3, rp_3, bb_3⟩ : Blk w3 (w1.heap.size) 24 [.slice Ax mx cx, .int .i64 ((xx.length : Nat) : Int)] ∧ Blk w3 (w2.heap.size) 24 [.slice Ay my cy, .int .i64 ((xy.length : Nat) : Int)] ∧ RowIn .u8 w3 (w.heap.size + 0) (w1.heap.size) Ax mx (pack xx) ∧ RowIn .u8 w3 (w1.heap.size + 1) (w2.heap.size) Ay my (pack xy) ∧ RowIn .u8 w3 (w2.heap.size + 1) (w3.heap.size) Ap mp (pack xp) ∧ Below w.heap.size w w3 := by
        refine ⟨?_, ?_, ?_, ?_, ?_, ?_⟩
        all_goals repeat' (first | (with_reducible assumption) | (with_reducible exact Below.refl _ _) | (with_reducible refine Blk.after ?_ b3) | (with_reducible refine RowIn.belowS ?_ b3) | (with_reducible refine Below.after ?_ b3 ?_) | (with_reducible refine Blk.drewN ?_ _) | (with_reducible refine RowIn.drewN ?_ _) | (with_reducible refine below_drewN ?_ _) | (with_reducible refine Blk.drew ?_) | (with_reducible refine RowIn.drew ?_) | (with_reducible refine Below.drew ?_) | (with_reducible refine Blk.new' ?_ ?_ <;> first | (with_reducible rfl) | (simp; done)) | (with_reducible refine Blk.alloc ?_ _) | (with_reducible refine RowIn.alloc ?_ _) | (with_reducible refine Below.alloc ?_ ?_ _) | (with_reducible apply Blk.set') | (with_reducible refine Blk.far' ?_ ?_ _) | (with_reducible refine RowIn.far' ?_ ?_ _) | (with_reducible refine Below.far' ?_ ?_ _) | rfl | omega | go_size)
      clear zx_2 rx_2 ry_2 bb_2 kx_2 fx_2 lx_2 b3
      have kx_3 := zx_3.cell; have fx_3 := zx_3.frozen; have lx_3 := zx_3.lt
      have ky_3 := zy_3.cell; have fy_3 := zy_3.frozen; have ly_3 := zy_3.lt
      clear rp
      go_wp2_with fail
      refine (bcut_ok Ay my cy xy _ _ _ (by exact (ry_3.row.alloc _)) hcy (by omega) (by omega) (by omega) (by omega)).mono ?_
      rintro e w4 ⟨Aq, mq, cq, xq, rfl, hcq, rq, HXq, b4⟩
      have Lq : xq.length ≤ a ∧ a ≤ xq.length := by rw [HXq.out]; rw [List.length_take, List.length_drop]; omega
      obtain ⟨Lq1, Lq2⟩ := Lq
      replace rq := rq.mono (lo' := w3.heap.size + 1) (by go_size) (Nat.le_refl _)
      have s4 := b4.size
      try simp only [World.size_alloc, World.size_setCell, World.size_drew, size_drewN] at s4
      obtain ⟨zx_4, zy_4, zp_4, rx_4, ry_4, rp_4, rq_4, bb_4⟩ : Blk w4 (w1.heap.size) 24 [.slice Ax mx cx, .int .i64 ((xx.length : Nat) : Int)] ∧ Blk w4 (w2.heap.size) 24 [.slice Ay my cy, .int .i64 ((xy.length : Nat) : Int)] ∧ Blk w4 (w3.heap.size) 24 [.slice Ap mp cp, .int .i64 ((xp.length : Nat) : Int)] ∧ RowIn .u8 w4 (w.heap.size + 0) (w1.heap.size) Ax mx (pack xx) ∧ RowIn .u8 w4 (w1.heap.size + 1) (w2.heap.size) Ay my (pack xy) ∧ RowIn .u8 w4 (w2.heap.size + 1) (w3.heap.size) Ap mp (pack xp) ∧ RowIn .u8 w4 (w3.heap.size + 1) (w4.heap.size) Aq mq (pack xq) ∧ Below w.heap.size w w4 := by
        refine ⟨?_, ?_, ?_, ?_, ?_, ?_, ?_, ?_⟩
        all_goals repeat' (first | (with_reducible assumption) | (with_reducible exact Below.refl _ _) | (with_reducible refine Blk.after ?_ b4) | (with_reducible refine RowIn.belowS ?_ b4) | (with_reducible refine Below.after ?_ b4 ?_) | (with_reducible refine Blk.drewN ?_ _) | (with_reducible refine RowIn.drewN ?_ _) | (with_reducible refine below_drewN ?_ _) | (with_reducible refine Blk.drew ?_) | (with_reducible refine RowIn.drew ?_) | (with_reducible refine Below.drew ?_) | (with_reducible refine Blk.new' ?_ ?_ <;> first | (with_reducible rfl) | (simp; done)) | (with_reducible refine Blk.alloc ?_ _) | (with_reducible refine RowIn.alloc ?_ _) | (with_reducible refine Below.alloc ?_ ?_ _) | (with_reducible apply Blk.set') | (with_reducible refine Blk.far' ?_ ?_ _) | (with_reducible refine RowIn.far' ?_ ?_ _) | (with_reducible refine Below.far' ?_ ?_ _) | rfl | omega | go_size)
      clear zx_3 zy_3 rx_3 ry_3 rp_3 bb_3 kx_3 fx_3 lx_3 ky_3 fy_3 ly_3 b4
      have kx_4 := zx_4.cell; have fx_4 := zx_4.frozen; have lx_4 := zx_4.lt
      have ky_4 := zy_4.cell; have fy_4 := zy_4.frozen; have ly_4 := zy_4.lt
      have kp_4 := zp_4.cell; have fp_4 := zp_4.frozen; have lp_4 := zp_4.lt
      clear rq
      have HE : Hid (¬ (((xp.length : Nat) : Int) = ((xq.length : Nat) : Int) ∧ pack xp = pack xq)) := by
        refine Lib.hid ?_
        rintro ⟨_, h⟩
        have h2 := pack_inj (by omega) h
        rw [HXp.out, HXq.out, HXx.out, HXy.out] at h2
        simp only [Int.toNat_natCast, List.nil_append, show ((0 : Int).toNat) = 0 from rfl, List.drop_zero, Nat.sub_zero] at h2
        exact run_apart hn48 hm48 HNM.out _ (by have := HA.out; have := HB.out; omega) h2
      go_wp2_with fail
      refine (rsame_ne Ap Aq mp mq cp cq _ _ _ _ _ (by exact (rp_4.row.alloc _)) (by exact (rq_4.row.alloc _)) (pack_u8 _) (pack_u8 _) HE.out).mono ?_
      rintro e w5 ⟨rfl, b5⟩
      have s5 := b5.size
      try simp only [World.size_alloc, World.size_setCell, World.size_drew, size_drewN] at s5
      obtain ⟨zx_5, zy_5, zp_5, zq_5, rx_5, ry_5, rp_5, rq_5, bb_5⟩ : Blk w5 (w1.heap.size) 24 [.slice Ax mx cx, .int .i64 ((xx.length : Nat) : Int)] ∧ Blk w5 (w2.heap.size) 24 [.slice Ay my cy, .int .i64 ((xy.length : Nat) : Int)] ∧ Blk w5 (w3.heap.size) 24 [.slice Ap mp cp, .int .i64 ((xp.length : Nat) : Int)] ∧ Blk w5 (w4.heap.size) 24 [.slice Aq mq cq, .int .i64 ((xq.length : Nat) : Int)] ∧ RowIn .u8 w5 (w.heap.size + 0) (w1.heap.size) Ax mx (pack xx) ∧ RowIn .u8 w5 (w1.heap.size + 1) (w2.heap.size) Ay my (pack xy) ∧ RowIn .u8 w5 (w2.heap.size + 1) (w3.heap.size) Ap mp (pack xp) ∧ RowIn .u8 w5 (w3.heap.size + 1) (w4.heap.size) Aq mq (pack xq) ∧ Below w.heap.size w w5 := by
        refine ⟨?_, ?_, ?_, ?_, ?_, ?_, ?_, ?_, ?_⟩
        all_goals repeat' (first | (with_reducible assumption) | (with_reducible exact Below.refl _ _) | (with_reducible refine Blk.after ?_ b5) | (with_reducible refine RowIn.belowS ?_ b5) | (with_reducible refine Below.after ?_ b5 ?_) | (with_reducible refine Blk.drewN ?_ _) | (with_reducible refine RowIn.drewN ?_ _) | (with_reducible refine below_drewN ?_ _) | (with_reducible refine Blk.drew ?_) | (with_reducible refine RowIn.drew ?_) | (with_reducible refine Below.drew ?_) | (with_reducible refine Blk.new' ?_ ?_ <;> first | (with_reducible rfl) | (simp; done)) | (with_reducible refine Blk.alloc ?_ _) | (with_reducible refine RowIn.alloc ?_ _) | (with_reducible refine Below.alloc ?_ ?_ _) | (with_reducible apply Blk.set') | (with_reducible refine Blk.far' ?_ ?_ _) | (with_reducible refine RowIn.far' ?_ ?_ _) | (with_reducible refine Below.far' ?_ ?_ _) | rfl | omega | go_size)
      clear zx_4 zy_4 zp_4 rx_4 ry_4 rp_4 rq_4 bb_4 kx_4 fx_4 lx_4 ky_4 fy_4 ly_4 kp_4 fp_4 lp_4 b5
      have kx_5 := zx_5.cell; have fx_5 := zx_5.frozen; have lx_5 := zx_5.lt
      have ky_5 := zy_5.cell; have fy_5 := zy_5.frozen; have ly_5 := zy_5.lt
      have kp_5 := zp_5.cell; have fp_5 := zp_5.frozen; have lp_5 := zp_5.lt
      have kq_5 := zq_5.cell; have fq_5 := zq_5.frozen; have lq_5 := zq_5.lt
      go_wp2_with fail
      refine (alive06 _).mono ?_
      rintro e w6 ⟨rfl, b6⟩
      have s6 := b6.size
      try simp only [World.size_alloc, World.size_setCell, World.size_drew, size_drewN] at s6
      have bb_6 : Below w.heap.size w w6 := by
        repeat' (first | (with_reducible assumption) | (with_reducible exact Below.refl _ _) | (with_reducible refine Blk.after ?_ b6) | (with_reducible refine RowIn.belowS ?_ b6) | (with_reducible refine Below.after ?_ b6 ?_) | (with_reducible refine Blk.drewN ?_ _) | (with_reducible refine RowIn.drewN ?_ _) | (with_reducible refine below_drewN ?_ _) | (with_reducible refine Blk.drew ?_) | (with_reducible refine RowIn.drew ?_) | (with_reducible refine Below.drew ?_) | (with_reducible refine Blk.new' ?_ ?_ <;> first | (with_reducible rfl) | (simp; done)) | (with_reducible refine Blk.alloc ?_ _) | (with_reducible refine RowIn.alloc ?_ _) | (with_reducible refine Below.alloc ?_ ?_ _) | (with_reducible apply Blk.set') | (with_reducible refine Blk.far' ?_ ?_ _) | (with_reducible refine RowIn.far' ?_ ?_ _) | (with_reducible refine Below.far' ?_ ?_ _) | rfl | omega | go_size)
      clear zx_5 zy_5 zp_5 zq_5 rx_5 ry_5 rp_5 rq_5 bb_5 kx_5 fx_5 lx_5 ky_5 fy_5 ly_5 kp_5 fp_5 lp_5 kq_5 fq_5 lq_5 b6
      go_wp2
      go_ret
      refine ⟨rfl, ?_⟩
      repeat' (first | (with_reducible assumption) | (with_reducible exact Below.refl _ _) | (with_reducible refine Blk.drewN ?_ _) | (with_reducible refine RowIn.drewN ?_ _) | (with_reducible refine below_drewN ?_ _) | (with_reducible refine Blk.drew ?_) | (with_reducible refine RowIn.drew ?_) | (with_reducible refine Below.drew ?_) | (with_reducible refine Blk.new' ?_ ?_ <;> first | (with_reducible rfl) | (simp; done)) | (with_reducible refine Blk.alloc ?_ _) | (with_reducible refine RowIn.alloc ?_ _) | (with_reducible refine Below.alloc ?_ ?_ _) | (with_reducible apply Blk.set') | (with_reducible refine Blk.far' ?_ ?_ _) | (with_reducible refine RowIn.far' ?_ ?_ _) | (with_reducible refine Below.far' ?_ ?_ _) | rfl | omega | go_size)
    · have hab : b < a := by have h1 := HA.out; have h2 := HB.out; have h3 := HNM.out; unfold runLen at h1 h2; omega
      have hab2 : ¬ a ≤ b := by omega
      clear hc
      go_wp2_with fail
      refine (bcut_ok Ax mx cx xx _ _ _ (by exact (rx_2.row.alloc _)) hcx (by omega) (by omega) (by omega) (by omega)).mono ?_
      rintro e w3 ⟨Ap, mp, cp, xp, rfl, hcp, rp, HXp, b3⟩
      have Lp : xp.length ≤ b ∧ b ≤ xp.length := by rw [HXp.out]; rw [List.length_take, List.length_drop]; omega
      obtain ⟨Lp1, Lp2⟩ := Lp
      replace rp := rp.mono (lo' := w2.heap.size + 1) (by go_size) (Nat.le_refl _)
      have s3 := b3.size
      try simp only [World.size_alloc, World.size_setCell, World.size_drew, size_drewN] at s3
      obtain ⟨zx_3, zy_3, rx_3, ry_3, rp_3, bb_3⟩ : Blk w3 (w1.heap.size) 24 [.slice Ax mx cx, .int .i64 ((xx.length : Nat) : Int)] ∧ Blk w3 (w2.heap.size) 24 [.slice Ay my cy, .int .i64 ((xy.length : Nat) : Int)] ∧ RowIn .u8 w3 (w.heap.size + 0) (w1.heap.size) Ax mx (pack xx) ∧ RowIn .u8 w3 (w1.heap.size + 1) (w2.heap.size) Ay my (pack xy) ∧ RowIn .u8 w3 (w2.heap.size + 1) (w3.heap.size) Ap mp (pack xp) ∧ Below w.heap.size w w3 := by
        refine ⟨?_, ?_, ?_, ?_, ?_, ?_⟩
        all_goals repeat' (first | (with_reducible assumption) | (with_reducible exact Below.refl _ _) | (with_reducible refine Blk.after ?_ b3) | (with_reducible refine RowIn.belowS ?_ b3) | (with_reducible refine Below.after ?_ b3 ?_) | (with_reducible refine Blk.drewN ?_ _) | (with_reducible refine RowIn.drewN ?_ _) | (with_reducible refine below_drewN ?_ _) | (with_reducible refine Blk.drew ?_) | (with_reducible refine RowIn.drew ?_) | (with_reducible refine Below.drew ?_) | (with_reducible refine Blk.new' ?_ ?_ <;> first | (with_reducible rfl) | (simp; done)) | (with_reducible refine Blk.alloc ?_ _) | (with_reducible refine RowIn.alloc ?_ _) | (with_reducible refine Below.alloc ?_ ?_ _) | (with_reducible apply Blk.set') | (with_reducible refine Blk.far' ?_ ?_ _) | (with_reducible refine RowIn.far' ?_ ?_ _) | (with_reducible refine Below.far' ?_ ?_ _) | rfl | omega | go_size)
      clear zx_2 rx_2 ry_2 bb_2 kx_2 fx_2 lx_2 b3
      have kx_3 := zx_3.cell; have fx_3 := zx_3.frozen; have lx_3 := zx_3.lt
      have ky_3 := zy_3.cell; have fy_3 := zy_3.frozen; have ly_3 := zy_3.lt
      clear rp
      go_wp2_with fail
      refine (bcut_ok Ay my cy xy _ _ _ (by exact (ry_3.row.alloc _)) hcy (by omega) (by omega) (by omega) (by omega)).mono ?_
      rintro e w4 ⟨Aq, mq, cq, xq, rfl, hcq, rq, HXq, b4⟩
      have Lq : xq.length ≤ b ∧ b ≤ xq.length := by rw [HXq.out]; rw [List.length_take, List.length_drop]; omega
      obtain ⟨Lq1, Lq2⟩ := Lq
      replace rq := rq.mono (lo' := w3.heap.size + 1) (by go_size) (Nat.le_refl _)
      have s4 := b4.size
      try simp only [World.size_alloc, World.size_setCell, World.size_drew, size_drewN] at s4
      obtain ⟨zx_4, zy_4, zp_4, rx_4, ry_4, rp_4, rq_4, bb_4⟩ : Blk w4 (w1.heap.size) 24 [.slice Ax mx cx, .int .i64 ((xx.length : Nat) : Int)] ∧ Blk w4 (w2.heap.size) 24 [.slice Ay my cy, .int .i64 ((xy.length : Nat) : Int)] ∧ Blk w4 (w3.heap.size) 24 [.slice Ap mp cp, .int .i64 ((xp.length : Nat) : Int)] ∧ RowIn .u8 w4 (w.heap.size + 0) (w1.heap.size) Ax mx (pack xx) ∧ RowIn .u8 w4 (w1.heap.size + 1) (w2.heap.size) Ay my (pack xy) ∧ RowIn .u8 w4 (w2.heap.size + 1) (w3.heap.size) Ap mp (pack xp) ∧ RowIn .u8 w4 (w3.heap.size + 1) (w4.heap.size) Aq mq (pack xq) ∧ Below w.heap.size w w4 := by
        refine ⟨?_, ?_, ?_, ?_, ?_, ?_, ?_, ?_⟩
        all_goals repeat' (first | (with_reducible assumption) | (with_reducible exact Below.refl _ _) | (with_reducible refine Blk.after ?_ b4) | (with_reducible refine RowIn.belowS ?_ b4) | (with_reducible refine Below.after ?_ b4 ?_) | (with_reducible refine Blk.drewN ?_ _) | (with_reducible refine RowIn.drewN ?_ _) | (with_reducible refine below_drewN ?_ _) | (with_reducible refine Blk.drew ?_) | (with_reducible refine RowIn.drew ?_) | (with_reducible refine Below.drew ?_) | (with_reducible refine Blk.new' ?_ ?_ <;> first | (with_reducible rfl) | (simp; done)) | (with_reducible refine Blk.alloc ?_ _) | (with_reducible refine RowIn.alloc ?_ _) | (with_reducible refine Below.alloc ?_ ?_ _) | (with_reducible apply Blk.set') | (with_reducible refine Blk.far' ?_ ?_ _) | (with_reducible refine RowIn.far' ?_ ?_ _) | (with_reducible refine Below.far' ?_ ?_ _) | rfl | omega | go_size)
      clear zx_3 zy_3 rx_3 ry_3 rp_3 bb_3 kx_3 fx_3 lx_3 ky_3 fy_3 ly_3 b4
      have kx_4 := zx_4.cell; have fx_4 := zx_4.frozen; have lx_4 := zx_4.lt
      have ky_4 := zy_4.cell; have fy_4 := zy_4.frozen; have ly_4 := zy_4.lt
      have kp_4 := zp_4.cell; have fp_4 := zp_4.frozen; have lp_4 := zp_4.lt
      clear rq
      have HE : Hid (¬ (((xp.length : Nat) : Int) = ((xq.length : Nat) : Int) ∧ pack xp = pack xq)) := by
        refine Lib.hid ?_
        rintro ⟨_, h⟩
        have h2 := pack_inj (by omega) h
        rw [HXp.out, HXq.out, HXx.out, HXy.out] at h2
        simp only [Int.toNat_natCast, List.nil_append, show ((0 : Int).toNat) = 0 from rfl, List.drop_zero, Nat.sub_zero] at h2
        exact run_apart hn48 hm48 HNM.out _ (by have := HA.out; have := HB.out; omega) h2
      go_wp2_with fail
      refine (rsame_ne Ap Aq mp mq cp cq _ _ _ _ _ (by exact (rp_4.row.alloc _)) (by exact (rq_4.row.alloc _)) (pack_u8 _) (pack_u8 _) HE.out).mono ?_
      rintro e w5 ⟨rfl, b5⟩
      have s5 := b5.size
      try simp only [World.size_alloc, World.size_setCell, World.size_drew, size_drewN] at s5
      obtain ⟨zx_5, zy_5, zp_5, zq_5, rx_5, ry_5, rp_5, rq_5, bb_5⟩ : Blk w5 (w1.heap.size) 24 [.slice Ax mx cx, .int .i64 ((xx.length : Nat) : Int)] ∧ Blk w5 (w2.heap.size) 24 [.slice Ay my cy, .int .i64 ((xy.length : Nat) : Int)] ∧ Blk w5 (w3.heap.size) 24 [.slice Ap mp cp, .int .i64 ((xp.length : Nat) : Int)] ∧ Blk w5 (w4.heap.size) 24 [.slice Aq mq cq, .int .i64 ((xq.length : Nat) : Int)] ∧ RowIn .u8 w5 (w.heap.size + 0) (w1.heap.size) Ax mx (pack xx) ∧ RowIn .u8 w5 (w1.heap.size + 1) (w2.heap.size) Ay my (pack xy) ∧ RowIn .u8 w5 (w2.heap.size + 1) (w3.heap.size) Ap mp (pack xp) ∧ RowIn .u8 w5 (w3.heap.size + 1) (w4.heap.size) Aq mq (pack xq) ∧ Below w.heap.size w w5 := by
        refine ⟨?_, ?_, ?_, ?_, ?_, ?_, ?_, ?_, ?_⟩
        all_goals repeat' (first | (with_reducible assumption) | (with_reducible exact Below.refl _ _) | (with_reducible refine Blk.after ?_ b5) | (with_reducible refine RowIn.belowS ?_ b5) | (with_reducible refine Below.after ?_ b5 ?_) | (with_reducible refine Blk.drewN ?_ _) | (with_reducible refine RowIn.drewN ?_ _) | (with_reducible refine below_drewN ?_ _) | (with_reducible refine Blk.drew ?_) | (with_reducible refine RowIn.drew ?_) | (with_reducible refine Below.drew ?_) | (with_reducible refine Blk.new' ?_ ?_ <;> first | (with_reducible rfl) | (simp; done)) | (with_reducible refine Blk.alloc ?_ _) | (with_reducible refine RowIn.alloc ?_ _) | (with_reducible refine Below.alloc ?_ ?_ _) | (with_reducible apply Blk.set') | (with_reducible refine Blk.far' ?_ ?_ _) | (with_reducible refine RowIn.far' ?_ ?_ _) | (with_reducible refine Below.far' ?_ ?_ _) | rfl | omega | go_size)
      clear zx_4 zy_4 zp_4 rx_4 ry_4 rp_4 rq_4 bb_4 kx_4 fx_4 lx_4 ky_4 fy_4 ly_4 kp_4 fp_4 lp_4 b5
      have kx_5 := zx_5.cell; have fx_5 := zx_5.frozen; have lx_5 := zx_5.lt
      have ky_5 := zy_5.cell; have fy_5 := zy_5.frozen; have ly_5 := zy_5.lt
      have kp_5 := zp_5.cell; have fp_5 := zp_5.frozen; have lp_5 := zp_5.lt
      have kq_5 := zq_5.cell; have fq_5 := zq_5.frozen; have lq_5 := zq_5.lt
      go_wp2_with fail
      refine (alive06 _).mono ?_
      rintro e w6 ⟨rfl, b6⟩
      have s6 := b6.size
      try simp only [World.size_alloc, World.size_setCell, World.size_drew, size_drewN] at s6
      have bb_6 : Below w.heap.size w w6 := by
        repeat' (first | (with_reducible assumption) | (with_reducible exact Below.refl _ _) | (with_reducible refine Blk.after ?_ b6) | (with_reducible refine RowIn.belowS ?_ b6) | (with_reducible refine Below.after ?_ b6 ?_) | (with_reducible refine Blk.drewN ?_ _) | (with_reducible refine RowIn.drewN ?_ _) | (with_reducible refine below_drewN ?_ _) | (with_reducible refine Blk.drew ?_) | (with_reducible refine RowIn.drew ?_) | (with_reducible refine Below.drew ?_) | (with_reducible refine Blk.new' ?_ ?_ <;> first | (with_reducible rfl) | (simp; done)) | (with_reducible refine Blk.alloc ?_ _) | (with_reducible refine RowIn.alloc ?_ _) | (with_reducible refine Below.alloc ?_ ?_ _) | (with_reducible apply Blk.set') | (with_reducible refine Blk.far' ?_ ?_ _) | (with_reducible refine RowIn.far' ?_ ?_ _) | (with_reducible refine Below.far' ?_ ?_ _) | rfl | omega | go_size)
      clear zx_5 zy_5 zp_5 zq_5 rx_5 ry_5 rp_5 rq_5 bb_5 kx_5 fx_5 lx_5 ky_5 fy_5 ly_5 kp_5 fp_5 lp_5 kq_5 fq_5 lq_5 b6
      go_wp2
      go_ret
      refine ⟨rfl, ?_⟩
      repeat' (first | (with_reducible assumption) | (with_reducible exact Below.refl _ _) | (with_reducible refine Blk.drewN ?_ _) | (with_reducible refine RowIn.drewN ?_ _) | (with_reducible refine below_drewN ?_ _) | (with_reducible refine Blk.drew ?_) | (with_reducible refine RowIn.drew ?_) | (with_reducible refine Below.drew ?_) | (with_reducible refine Blk.new' ?_ ?_ <;> first | (with_reducible rfl) | (simp; done)) | (with_reducible refine Blk.alloc ?_ _) | (with_reducible refine RowIn.alloc ?_ _) | (with_reducible refine Below.alloc ?_ ?_ _) | (with_reducible apply Blk.set') | (with_reducible refine Blk.far' ?_ ?_ _) | (with_reducible refine RowIn.far' ?_ ?_ _) | (with_reducible refine Below.far' ?_ ?_ _) | rfl | omega | go_size)


end Go.Proofs.Ytlkgdkefimlmdaa
