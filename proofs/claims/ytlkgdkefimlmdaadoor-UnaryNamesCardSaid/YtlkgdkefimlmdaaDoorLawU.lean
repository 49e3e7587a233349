/-
  The examples of chapter 6 (runs).
-/
import Derived.Test.YtlkgdkefimlmdaaDoorUnaA
import Derived.Test.YtlkgdkefimlmdaaDoorRefB
namespace Go.Proofs.YtlkgdkefimlmdaaDoor
open Go.RowKit Cad Cad.Bit Cad.Code
set_option linter.unusedVariables false
set_option linter.unusedSimpArgs false

set_option maxRecDepth 100000 in
set_option maxHeartbeats 400000 in
theorem alive06 (w : World) : Calls Tryd.prog 19 #[] w fun e w' => e = .returned (.bool true) ∧ Below w.heap.size w w' := by
  go_enter Tryd.func19, Tryd.ntmps19
  go_wp2_with fail
  refine (uwrite_ok none 0 0 [] 0 _ Row.nil ⟨Nat.le_refl _, Nat.zero_le _⟩ (by omega) (by decide)).mono ?_
  rintro e w1 ⟨Aa, ma, ca, xa, rfl, hca, ra, HXa, b1⟩
  have La : xa.length ≤ 1 ∧ 1 ≤ xa.length := by rw [HXa.out]; decide
  obtain ⟨La1, La2⟩ := La
  replace ra := ra.mono (lo' := w.heap.size + 0) (by go_size) (Nat.le_refl _)
  have s1 := b1.size
  try simp only [World.size_alloc, World.size_setCell, World.size_drew, size_drewN] at s1
  obtain ⟨ra_1, bb_1⟩ : RowIn .u8 w1 (w.heap.size + 0) (w1.heap.size) Aa ma (pack xa) ∧ Below w.heap.size w w1 := by
    refine ⟨?_, ?_⟩
    all_goals repeat' (first | (with_reducible assumption) | (with_reducible exact Below.refl _ _) | (with_reducible refine Blk.after ?_ b1) | (with_reducible refine RowIn.belowS ?_ b1) | (with_reducible refine Below.after ?_ b1 ?_) | (with_reducible refine Blk.drewN ?_ _) | (with_reducible refine RowIn.drewN ?_ _) | (with_reducible refine below_drewN ?_ _) | (with_reducible refine Blk.drew ?_) | (with_reducible refine RowIn.drew ?_) | (with_reducible refine Below.drew ?_) | (with_reducible refine Blk.new' ?_ ?_ <;> first | (with_reducible rfl) | (simp; done)) | (with_reducible refine Blk.alloc ?_ _) | (with_reducible refine RowIn.alloc ?_ _) | (with_reducible refine Below.alloc ?_ ?_ _) | (with_reducible apply Blk.set') | (with_reducible refine Blk.far' ?_ ?_ _) | (with_reducible refine RowIn.far' ?_ ?_ _) | (with_reducible refine Below.far' ?_ ?_ _) | rfl | omega | go_size)
  clear b1
  clear ra
  go_wp2_with fail
  refine (uwrite_ok none 0 0 [] 3 _ Row.nil ⟨Nat.le_refl _, Nat.zero_le _⟩ (by omega) (by decide)).mono ?_
  rintro e w2 ⟨Ab, mb, cb, xb, rfl, hcb, rb, HXb, b2⟩
  have Lb : xb.length ≤ 4 ∧ 4 ≤ xb.length := by rw [HXb.out]; decide
  obtain ⟨Lb1, Lb2⟩ := Lb
  replace rb := rb.mono (lo' := w1.heap.size + 1) (by go_size) (Nat.le_refl _)
  have s2 := b2.size
  try simp only [World.size_alloc, World.size_setCell, World.size_drew, size_drewN] at s2
  obtain ⟨za_2, ra_2, rb_2, bb_2⟩ : Blk w2 (w1.heap.size) 24 [.slice Aa ma ca, .int .i64 ((xa.length : Nat) : Int)] ∧ RowIn .u8 w2 (w.heap.size + 0) (w1.heap.size) Aa ma (pack xa) ∧ RowIn .u8 w2 (w1.heap.size + 1) (w2.heap.size) Ab mb (pack xb) ∧ Below w.heap.size w w2 := by
    refine ⟨?_, ?_, ?_, ?_⟩
    all_goals repeat' (first | (with_reducible assumption) | (with_reducible exact Below.refl _ _) | (with_reducible refine Blk.after ?_ b2) | (with_reducible refine RowIn.belowS ?_ b2) | (with_reducible refine Below.after ?_ b2 ?_) | (with_reducible refine Blk.drewN ?_ _) | (with_reducible refine RowIn.drewN ?_ _) | (with_reducible refine below_drewN ?_ _) | (with_reducible refine Blk.drew ?_) | (with_reducible refine RowIn.drew ?_) | (with_reducible refine Below.drew ?_) | (with_reducible refine Blk.new' ?_ ?_ <;> first | (with_reducible rfl) | (simp; done)) | (with_reducible refine Blk.alloc ?_ _) | (with_reducible refine RowIn.alloc ?_ _) | (with_reducible refine Below.alloc ?_ ?_ _) | (with_reducible apply Blk.set') | (with_reducible refine Blk.far' ?_ ?_ _) | (with_reducible refine RowIn.far' ?_ ?_ _) | (with_reducible refine Below.far' ?_ ?_ _) | rfl | omega | go_size)
  clear ra_1 bb_1 b2
  have ka_2 := za_2.cell; have fa_2 := za_2.frozen; have la_2 := za_2.lt
  clear rb
  go_wp2_with fail
  refine (uwrite_ok none 0 0 [] 48 _ Row.nil ⟨Nat.le_refl _, Nat.zero_le _⟩ (by omega) (by decide)).mono ?_
  rintro e w3 ⟨Ac, mc, cc, xc, rfl, hcc, rc, HXc, b3⟩
  have Lc : xc.length ≤ 48 ∧ 48 ≤ xc.length := by rw [HXc.out]; decide
  obtain ⟨Lc1, Lc2⟩ := Lc
  replace rc := rc.mono (lo' := w2.heap.size + 1) (by go_size) (Nat.le_refl _)
  have s3 := b3.size
  try simp only [World.size_alloc, World.size_setCell, World.size_drew, size_drewN] at s3
  obtain ⟨za_3, zb_3, ra_3, rb_3, rc_3, bb_3⟩ : Blk w3 (w1.heap.size) 24 [.slice Aa ma ca, .int .i64 ((xa.length : Nat) : Int)] ∧ Blk w3 (w2.heap.size) 24 [.slice Ab mb cb, .int .i64 ((xb.length : Nat) : Int)] ∧ RowIn .u8 w3 (w.heap.size + 0) (w1.heap.size) Aa ma (pack xa) ∧ RowIn .u8 w3 (w1.heap.size + 1) (w2.heap.size) Ab mb (pack xb) ∧ RowIn .u8 w3 (w2.heap.size + 1) (w3.heap.size) Ac mc (pack xc) ∧ Below w.heap.size w w3 := by
    refine ⟨?_, ?_, ?_, ?_, ?_, ?_⟩
    all_goals repeat' (first | (with_reducible assumption) | (with_reducible exact Below.refl _ _) | (with_reducible refine Blk.after ?_ b3) | (with_reducible refine RowIn.belowS ?_ b3) | (with_reducible refine Below.after ?_ b3 ?_) | (with_reducible refine Blk.drewN ?_ _) | (with_reducible refine RowIn.drewN ?_ _) | (with_reducible refine below_drewN ?_ _) | (with_reducible refine Blk.drew ?_) | (with_reducible refine RowIn.drew ?_) | (with_reducible refine Below.drew ?_) | (with_reducible refine Blk.new' ?_ ?_ <;> first | (with_reducible rfl) | (simp; done)) | (with_reducible refine Blk.alloc ?_ _) | (with_reducible refine RowIn.alloc ?_ _) | (with_reducible refine Below.alloc ?_ ?_ _) | (with_reducible apply Blk.set') | (with_reducible refine Blk.far' ?_ ?_ _) | (with_reducible refine RowIn.far' ?_ ?_ _) | (with_reducible refine Below.far' ?_ ?_ _) | rfl | omega | go_size)
  clear za_2 ra_2 rb_2 bb_2 ka_2 fa_2 la_2 b3
  have ka_3 := za_3.cell; have fa_3 := za_3.frozen; have la_3 := za_3.lt
  have kb_3 := zb_3.cell; have fb_3 := zb_3.frozen; have lb_3 := zb_3.lt
  clear rc
  go_wp2_with fail
  refine (uwrite_ok none 0 0 [] 47 _ Row.nil ⟨Nat.le_refl _, Nat.zero_le _⟩ (by omega) (by decide)).mono ?_
  rintro e w4 ⟨Ad, md, cd, xd, rfl, hcd, rd, HXd, b4⟩
  have Ld : xd.length ≤ 48 ∧ 48 ≤ xd.length := by rw [HXd.out]; decide
  obtain ⟨Ld1, Ld2⟩ := Ld
  replace rd := rd.mono (lo' := w3.heap.size + 1) (by go_size) (Nat.le_refl _)
  have s4 := b4.size
  try simp only [World.size_alloc, World.size_setCell, World.size_drew, size_drewN] at s4
  obtain ⟨za_4, zb_4, zc_4, ra_4, rb_4, rc_4, rd_4, bb_4⟩ : Blk w4 (w1.heap.size) 24 [.slice Aa ma ca, .int .i64 ((xa.length : Nat) : Int)] ∧ Blk w4 (w2.heap.size) 24 [.slice Ab mb cb, .int .i64 ((xb.length : Nat) : Int)] ∧ Blk w4 (w3.heap.size) 24 [.slice Ac mc cc, .int .i64 ((xc.length : Nat) : Int)] ∧ RowIn .u8 w4 (w.heap.size + 0) (w1.heap.size) Aa ma (pack xa) ∧ RowIn .u8 w4 (w1.heap.size + 1) (w2.heap.size) Ab mb (pack xb) ∧ RowIn .u8 w4 (w2.heap.size + 1) (w3.heap.size) Ac mc (pack xc) ∧ RowIn .u8 w4 (w3.heap.size + 1) (w4.heap.size) Ad md (pack xd) ∧ Below w.heap.size w w4 := by
    refine ⟨?_, ?_, ?_, ?_, ?_, ?_, ?_, ?_⟩
    all_goals repeat' (first | (with_reducible assumption) | (with_reducible exact Below.refl _ _) | (with_reducible refine Blk.after ?_ b4) | (with_reducible refine RowIn.belowS ?_ b4) | (with_reducible refine Below.after ?_ b4 ?_) | (with_reducible refine Blk.drewN ?_ _) | (with_reducible refine RowIn.drewN ?_ _) | (with_reducible refine below_drewN ?_ _) | (with_reducible refine Blk.drew ?_) | (with_reducible refine RowIn.drew ?_) | (with_reducible refine Below.drew ?_) | (with_reducible refine Blk.new' ?_ ?_ <;> first | (with_reducible rfl) | (simp; done)) | (with_reducible refine Blk.alloc ?_ _) | (with_reducible refine RowIn.alloc ?_ _) | (with_reducible refine Below.alloc ?_ ?_ _) | (with_reducible apply Blk.set') | (with_reducible refine Blk.far' ?_ ?_ _) | (with_reducible refine RowIn.far' ?_ ?_ _) | (with_reducible refine Below.far' ?_ ?_ _) | rfl | omega | go_size)
  clear za_3 zb_3 ra_3 rb_3 rc_3 bb_3 ka_3 fa_3 la_3 kb_3 fb_3 lb_3 b4
  have ka_4 := za_4.cell; have fa_4 := za_4.frozen; have la_4 := za_4.lt
  have kb_4 := zb_4.cell; have fb_4 := zb_4.frozen; have lb_4 := zb_4.lt
  have kc_4 := zc_4.cell; have fc_4 := zc_4.frozen; have lc_4 := zc_4.lt
  clear rd
  have ta : (((xa.length : Nat) : Int) == 1) = true := beq_iff_eq.2 (by omega)
  have tb : (((xb.length : Nat) : Int) == 4) = true := beq_iff_eq.2 (by omega)
  have tc : (((xc.length : Nat) : Int) == 48) = true := beq_iff_eq.2 (by omega)
  have td : (((xd.length : Nat) : Int) == 48) = true := beq_iff_eq.2 (by omega)
  have sca := run_str (P := Tryd.prog) (src := 22) (dst := 9) Tryd.underlying22 Tryd.underlying5 Tryd.underlying9 ca (ra_4.row.alloc (.cells #[.slice Ad md cd, .int .i64 ((xd.length : Nat) : Int)] 24))
  have sla : ((strOfNums (pack xa)).toList == [0]) = true := by rw [str_lit (pack_u8 _), HXa.out]; decide
  have scb := run_str (P := Tryd.prog) (src := 22) (dst := 9) Tryd.underlying22 Tryd.underlying5 Tryd.underlying9 cb (rb_4.row.alloc (.cells #[.slice Ad md cd, .int .i64 ((xd.length : Nat) : Int)] 24))
  have slb : ((strOfNums (pack xb)).toList == [7]) = true := by rw [str_lit (pack_u8 _), HXb.out]; decide
  have scc := run_str (P := Tryd.prog) (src := 22) (dst := 9) Tryd.underlying22 Tryd.underlying5 Tryd.underlying9 cc (rc_4.row.alloc (.cells #[.slice Ad md cd, .int .i64 ((xd.length : Nat) : Int)] 24))
  have slc : ((strOfNums (pack xc)).toList == [255, 255, 255, 255, 255, 255]) = true := by rw [str_lit (pack_u8 _), HXc.out]; decide
  have scd := run_str (P := Tryd.prog) (src := 22) (dst := 9) Tryd.underlying22 Tryd.underlying5 Tryd.underlying9 cd (rd_4.row.alloc (.cells #[.slice Ad md cd, .int .i64 ((xd.length : Nat) : Int)] 24))
  have sld : ((strOfNums (pack xd)).toList == [255, 255, 255, 255, 255, 127]) = true := by rw [str_lit (pack_u8 _), HXd.out]; decide
  go_wp2
  go_ret
  refine ⟨rfl, ?_⟩
  repeat' (first | (with_reducible assumption) | (with_reducible exact Below.refl _ _) | (with_reducible refine Blk.drewN ?_ _) | (with_reducible refine RowIn.drewN ?_ _) | (with_reducible refine below_drewN ?_ _) | (with_reducible refine Blk.drew ?_) | (with_reducible refine RowIn.drew ?_) | (with_reducible refine Below.drew ?_) | (with_reducible refine Blk.new' ?_ ?_ <;> first | (with_reducible rfl) | (simp; done)) | (with_reducible refine Blk.alloc ?_ _) | (with_reducible refine RowIn.alloc ?_ _) | (with_reducible refine Below.alloc ?_ ?_ _) | (with_reducible apply Blk.set') | (with_reducible refine Blk.far' ?_ ?_ _) | (with_reducible refine RowIn.far' ?_ ?_ _) | (with_reducible refine Below.far' ?_ ?_ _) | rfl | omega | go_size)


/-- No run begins another one. -/
theorem run_apart {n m : Nat} (hn : n ≤ 48) (hm : m ≤ 48) (h : n ≠ m) (K : Nat) (hK : K = min (runLen n) (runLen m)) : (run n).take K ≠ (run m).take K := by
  intro e
  have key : ∀ {a b : Nat}, a ≤ 48 → b ≤ 48 → runLen a ≤ runLen b → (run a).take (runLen a) = (run b).take (runLen a) → a = b := by
    intro a b ha hb hl e
    rw [List.take_of_length_le (by rw [run_len ha]; omega)] at e
    have h1 := readU_run ha ((run b).drop (runLen a))
    rw [e, List.take_append_drop] at h1
    have h2 := readU_run hb []
    rw [List.append_nil, h1] at h2
    injection h2
  rcases Nat.le_total (runLen n) (runLen m) with hl | hl
  · rw [show K = runLen n by omega] at e; exact h (key hn hm hl e)
  · rw [show K = runLen m by omega] at e; exact h (key hm hn hl e.symm).symm


end Go.Proofs.YtlkgdkefimlmdaaDoor
