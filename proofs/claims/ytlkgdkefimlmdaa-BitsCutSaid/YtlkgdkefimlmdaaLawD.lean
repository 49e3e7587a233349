/-
  The walks of BitsCut and BitsBytes.
-/
import Derived.Test.YtlkgdkefimlmdaaLawB
namespace Go.Proofs.Ytlkgdkefimlmdaa
open Go.RowKit Cad Cad.Bit
set_option linter.unusedVariables false
set_option linter.unusedSimpArgs false

theorem bjoin_ok (A B : Option Addr) (m c n d : Nat) (fs bs : List Bool) (w : World) (ha : Row .u8 w A m (pack fs)) (hb : Row .u8 w B n (pack bs)) (hc : m ≤ c ∧ c ≤ 9223372036854775807) (hd : n ≤ d ∧ d ≤ 9223372036854775807) (h : fs.length + bs.length ≤ 330000) :
    Calls Try.prog 16 #[.agg #[.slice A m c, .int .i64 (fs.length : Nat)], .agg #[.slice B n d, .int .i64 (bs.length : Nat)]] w (RetB w (fs ++ bs) 0) := by
  have h1 := bjoin_ret A B m c n d fs bs w ha hb hc hd (by omega) (by omega)
  have h2 : joinR fs bs = (fs ++ bs, 0) := by unfold joinR; rw [if_neg (by omega)]
  rw [h2] at h1; exact h1
theorem bcut_ok (A : Option Addr) (m c : Nat) (bs : List Bool) (p q : Int) (w : World) (ha : Row .u8 w A m (pack bs)) (hc : m ≤ c ∧ c ≤ 9223372036854775807) (hl : bs.length ≤ 330000) (h0 : 0 ≤ p) (h1 : p ≤ q) (h2 : q ≤ (bs.length : Int)) :
    Calls Try.prog 18 #[.agg #[.slice A m c, .int .i64 (bs.length : Nat)], .int .i64 p, .int .i64 q] w (RetB w ((bs.drop p.toNat).take (q.toNat - p.toNat)) 0) := by
  have h := bcut_ret A m c bs p q w ha hc hl
  have e : cutR bs p q = ((bs.drop p.toNat).take (q.toNat - p.toNat), 0) := by unfold cutR; rw [if_neg (by omega)]
  rw [e] at h; exact h


set_option maxRecDepth 100000 in
set_option maxHeartbeats 1000000 in
theorem lawBitsCut (w : World) (Aa : Option Addr) (na ca : Nat) (Na : Int) (xsa : List Int) (hAa : RowC .u8 w Aa na ca xsa) (hxa : Within 0 255 xsa) (hNa : -9223372036854775808 ≤ Na ∧ Na ≤ 9223372036854775807) (Ab : Option Addr) (nb cb : Nat) (Nb : Int) (xsb : List Int) (hAb : RowC .u8 w Ab nb cb xsb) (hxb : Within 0 255 xsb) (hNb : -9223372036854775808 ≤ Nb ∧ Nb ≤ 9223372036854775807) (Ac : Option Addr) (nc cc : Nat) (Nc : Int) (xsc : List Int) (hAc : RowC .u8 w Ac nc cc xsc) (hxc : Within 0 255 xsc) (hNc : -9223372036854775808 ≤ Nc ∧ Nc ≤ 9223372036854775807) (p : Int) (hp : -9223372036854775808 ≤ p ∧ p ≤ 9223372036854775807) :
    Calls Try.prog 8 #[.agg #[.slice Aa na ca, .int .i64 Na], .agg #[.slice Ab nb cb, .int .i64 Nb], .agg #[.slice Ac nc cc, .int .i64 Nc], .int .i64 p] w fun e w' => e = .returned (.bool true) ∧ Below w.heap.size w w' := by
  have haa := hAa.row
  have hca := hAa.2
  have hria := haa.rowIn
  have hab := hAb.row
  have hcb := hAb.2
  have hrib := hab.rowIn
  have hac := hAc.row
  have hcc := hAc.2
  have hric := hac.rowIn
  by_cases hva : ¬ Valid xsa Na
  · go_enter Try.func8, Try.ntmps8
    go_wp2_with fail
    refine (rcheck_bad Aa na ca Na xsa _ (by exact (((haa.alloc _).alloc _).alloc _)) hxa (by omega) hva).mono ?_
    rintro e w1 ⟨rfl, b1⟩
    have s1 := b1.size
    try simp only [World.size_alloc, World.size_setCell, World.size_drew, size_drewN] at s1
    obtain ⟨za_1, zb_1, zc_1, ra_1, rb_1, rc_1, bb_1⟩ : Blk w1 (w.heap.size) 24 [.slice Aa na ca, .int .i64 Na] ∧ Blk w1 (w.heap.size + 1) 24 [.slice Ab nb cb, .int .i64 Nb] ∧ Blk w1 (w.heap.size + 1 + 1) 24 [.slice Ac nc cc, .int .i64 Nc] ∧ RowIn .u8 w1 (0) (w.heap.size) Aa na xsa ∧ RowIn .u8 w1 (0) (w.heap.size) Ab nb xsb ∧ RowIn .u8 w1 (0) (w.heap.size) Ac nc xsc ∧ Below w.heap.size w w1 := by
      refine ⟨?_, ?_, ?_, ?_, ?_, ?_, ?_⟩
      all_goals repeat' (first | (with_reducible assumption) | (with_reducible exact Below.refl _ _) | (with_reducible refine Blk.after ?_ b1) | (with_reducible refine RowIn.belowS ?_ b1) | (with_reducible refine Below.after ?_ b1 ?_) | (with_reducible refine Blk.drewN ?_ _) | (with_reducible refine RowIn.drewN ?_ _) | (with_reducible refine below_drewN ?_ _) | (with_reducible refine Blk.drew ?_) | (with_reducible refine RowIn.drew ?_) | (with_reducible refine Below.drew ?_) | (with_reducible refine Blk.new' ?_ ?_ <;> first | (with_reducible rfl) | (simp; done)) | (with_reducible refine Blk.alloc ?_ _) | (with_reducible refine RowIn.alloc ?_ _) | (with_reducible refine Below.alloc ?_ ?_ _) | (with_reducible refine Blk.set' ?_ ?_) | (with_reducible refine Blk.far' ?_ ?_ _) | (with_reducible refine RowIn.far' ?_ ?_ _) | (with_reducible refine Below.far' ?_ ?_ _) | rfl | omega | go_size)
    clear b1
    have ka_1 := za_1.cell; have fa_1 := za_1.frozen; have la_1 := za_1.lt
    have kb_1 := zb_1.cell; have fb_1 := zb_1.frozen; have lb_1 := zb_1.lt
    have kc_1 := zc_1.cell; have fc_1 := zc_1.frozen; have lc_1 := zc_1.lt
    go_wp2_with fail
    refine (alive02 _).mono ?_
    rintro e w2 ⟨rfl, b2⟩
    have s2 := b2.size
    try simp only [World.size_alloc, World.size_setCell, World.size_drew, size_drewN] at s2
    obtain ⟨za_2, zb_2, zc_2, ra_2, rb_2, rc_2, bb_2⟩ : Blk w2 (w.heap.size) 24 [.slice Aa na ca, .int .i64 Na] ∧ Blk w2 (w.heap.size + 1) 24 [.slice Ab nb cb, .int .i64 Nb] ∧ Blk w2 (w.heap.size + 1 + 1) 24 [.slice Ac nc cc, .int .i64 Nc] ∧ RowIn .u8 w2 (0) (w.heap.size) Aa na xsa ∧ RowIn .u8 w2 (0) (w.heap.size) Ab nb xsb ∧ RowIn .u8 w2 (0) (w.heap.size) Ac nc xsc ∧ Below w.heap.size w w2 := by
      refine ⟨?_, ?_, ?_, ?_, ?_, ?_, ?_⟩
      all_goals repeat' (first | (with_reducible assumption) | (with_reducible exact Below.refl _ _) | (with_reducible refine Blk.after ?_ b2) | (with_reducible refine RowIn.belowS ?_ b2) | (with_reducible refine Below.after ?_ b2 ?_) | (with_reducible refine Blk.drewN ?_ _) | (with_reducible refine RowIn.drewN ?_ _) | (with_reducible refine below_drewN ?_ _) | (with_reducible refine Blk.drew ?_) | (with_reducible refine RowIn.drew ?_) | (with_reducible refine Below.drew ?_) | (with_reducible refine Blk.new' ?_ ?_ <;> first | (with_reducible rfl) | (simp; done)) | (with_reducible refine Blk.alloc ?_ _) | (with_reducible refine RowIn.alloc ?_ _) | (with_reducible refine Below.alloc ?_ ?_ _) | (with_reducible refine Blk.set' ?_ ?_) | (with_reducible refine Blk.far' ?_ ?_ _) | (with_reducible refine RowIn.far' ?_ ?_ _) | (with_reducible refine Below.far' ?_ ?_ _) | rfl | omega | go_size)
    clear za_1 zb_1 zc_1 ra_1 rb_1 rc_1 bb_1 ka_1 fa_1 la_1 kb_1 fb_1 lb_1 kc_1 fc_1 lc_1 b2
    have ka_2 := za_2.cell; have fa_2 := za_2.frozen; have la_2 := za_2.lt
    have kb_2 := zb_2.cell; have fb_2 := zb_2.frozen; have lb_2 := zb_2.lt
    have kc_2 := zc_2.cell; have fc_2 := zc_2.frozen; have lc_2 := zc_2.lt
    go_wp2
    go_ret
    refine ⟨rfl, ?_⟩
    repeat' (first | (with_reducible assumption) | (with_reducible exact Below.refl _ _) | (with_reducible refine Blk.drewN ?_ _) | (with_reducible refine RowIn.drewN ?_ _) | (with_reducible refine below_drewN ?_ _) | (with_reducible refine Blk.drew ?_) | (with_reducible refine RowIn.drew ?_) | (with_reducible refine Below.drew ?_) | (with_reducible refine Blk.new' ?_ ?_ <;> first | (with_reducible rfl) | (simp; done)) | (with_reducible refine Blk.alloc ?_ _) | (with_reducible refine RowIn.alloc ?_ _) | (with_reducible refine Below.alloc ?_ ?_ _) | (with_reducible refine Blk.set' ?_ ?_) | (with_reducible refine Blk.far' ?_ ?_ _) | (with_reducible refine RowIn.far' ?_ ?_ _) | (with_reducible refine Below.far' ?_ ?_ _) | rfl | omega | go_size)
  obtain ⟨xa, rfl, rfl, hla⟩ := valid_bits hxa (Decidable.not_not.1 hva)
  clear hva
  by_cases hvb : ¬ Valid xsb Nb
  · go_enter Try.func8, Try.ntmps8
    go_wp2_with fail
    refine (rcheck_ok Aa na ca xa _ (by exact (((haa.alloc _).alloc _).alloc _)) (by omega) hla).mono ?_
    rintro e w1 ⟨rfl, b1⟩
    have s1 := b1.size
    try simp only [World.size_alloc, World.size_setCell, World.size_drew, size_drewN] at s1
    obtain ⟨za_1, zb_1, zc_1, ra_1, rb_1, rc_1, bb_1⟩ : Blk w1 (w.heap.size) 24 [.slice Aa na ca, .int .i64 ((xa.length : Nat) : Int)] ∧ Blk w1 (w.heap.size + 1) 24 [.slice Ab nb cb, .int .i64 Nb] ∧ Blk w1 (w.heap.size + 1 + 1) 24 [.slice Ac nc cc, .int .i64 Nc] ∧ RowIn .u8 w1 (0) (w.heap.size) Aa na (pack xa) ∧ RowIn .u8 w1 (0) (w.heap.size) Ab nb xsb ∧ RowIn .u8 w1 (0) (w.heap.size) Ac nc xsc ∧ Below w.heap.size w w1 := by
      refine ⟨?_, ?_, ?_, ?_, ?_, ?_, ?_⟩
      all_goals repeat' (first | (with_reducible assumption) | (with_reducible exact Below.refl _ _) | (with_reducible refine Blk.after ?_ b1) | (with_reducible refine RowIn.belowS ?_ b1) | (with_reducible refine Below.after ?_ b1 ?_) | (with_reducible refine Blk.drewN ?_ _) | (with_reducible refine RowIn.drewN ?_ _) | (with_reducible refine below_drewN ?_ _) | (with_reducible refine Blk.drew ?_) | (with_reducible refine RowIn.drew ?_) | (with_reducible refine Below.drew ?_) | (with_reducible refine Blk.new' ?_ ?_ <;> first | (with_reducible rfl) | (simp; done)) | (with_reducible refine Blk.alloc ?_ _) | (with_reducible refine RowIn.alloc ?_ _) | (with_reducible refine Below.alloc ?_ ?_ _) | (with_reducible refine Blk.set' ?_ ?_) | (with_reducible refine Blk.far' ?_ ?_ _) | (with_reducible refine RowIn.far' ?_ ?_ _) | (with_reducible refine Below.far' ?_ ?_ _) | rfl | omega | go_size)
    clear b1
    have ka_1 := za_1.cell; have fa_1 := za_1.frozen; have la_1 := za_1.lt
    have kb_1 := zb_1.cell; have fb_1 := zb_1.frozen; have lb_1 := zb_1.lt
    have kc_1 := zc_1.cell; have fc_1 := zc_1.frozen; have lc_1 := zc_1.lt
    go_wp2_with fail
    refine (rcheck_bad Ab nb cb Nb xsb _ rb_1.row hxb (by omega) hvb).mono ?_
    rintro e w2 ⟨rfl, b2⟩
    have s2 := b2.size
    try simp only [World.size_alloc, World.size_setCell, World.size_drew, size_drewN] at s2
    obtain ⟨za_2, zb_2, zc_2, ra_2, rb_2, rc_2, bb_2⟩ : Blk w2 (w.heap.size) 24 [.slice Aa na ca, .int .i64 ((xa.length : Nat) : Int)] ∧ Blk w2 (w.heap.size + 1) 24 [.slice Ab nb cb, .int .i64 Nb] ∧ Blk w2 (w.heap.size + 1 + 1) 24 [.slice Ac nc cc, .int .i64 Nc] ∧ RowIn .u8 w2 (0) (w.heap.size) Aa na (pack xa) ∧ RowIn .u8 w2 (0) (w.heap.size) Ab nb xsb ∧ RowIn .u8 w2 (0) (w.heap.size) Ac nc xsc ∧ Below w.heap.size w w2 := by
      refine ⟨?_, ?_, ?_, ?_, ?_, ?_, ?_⟩
      all_goals repeat' (first | (with_reducible assumption) | (with_reducible exact Below.refl _ _) | (with_reducible refine Blk.after ?_ b2) | (with_reducible refine RowIn.belowS ?_ b2) | (with_reducible refine Below.after ?_ b2 ?_) | (with_reducible refine Blk.drewN ?_ _) | (with_reducible refine RowIn.drewN ?_ _) | (with_reducible refine below_drewN ?_ _) | (with_reducible refine Blk.drew ?_) | (with_reducible refine RowIn.drew ?_) | (with_reducible refine Below.drew ?_) | (with_reducible refine Blk.new' ?_ ?_ <;> first | (with_reducible rfl) | (simp; done)) | (with_reducible refine Blk.alloc ?_ _) | (with_reducible refine RowIn.alloc ?_ _) | (with_reducible refine Below.alloc ?_ ?_ _) | (with_reducible refine Blk.set' ?_ ?_) | (with_reducible refine Blk.far' ?_ ?_ _) | (with_reducible refine RowIn.far' ?_ ?_ _) | (with_reducible refine Below.far' ?_ ?_ _) | rfl | omega | go_size)
    clear za_1 zb_1 zc_1 ra_1 rb_1 rc_1 bb_1 ka_1 fa_1 la_1 kb_1 fb_1 lb_1 kc_1 fc_1 lc_1 b2
    have ka_2 := za_2.cell; have fa_2 := za_2.frozen; have la_2 := za_2.lt
    have kb_2 := zb_2.cell; have fb_2 := zb_2.frozen; have lb_2 := zb_2.lt
    have kc_2 := zc_2.cell; have fc_2 := zc_2.frozen; have lc_2 := zc_2.lt
    go_wp2_with fail
    refine (alive02 _).mono ?_
    rintro e w3 ⟨rfl, b3⟩
    have s3 := b3.size
    try simp only [World.size_alloc, World.size_setCell, World.size_drew, size_drewN] at s3
    obtain ⟨za_3, zb_3, zc_3, ra_3, rb_3, rc_3, bb_3⟩ : Blk w3 (w.heap.size) 24 [.slice Aa na ca, .int .i64 ((xa.length : Nat) : Int)] ∧ Blk w3 (w.heap.size + 1) 24 [.slice Ab nb cb, .int .i64 Nb] ∧ Blk w3 (w.heap.size + 1 + 1) 24 [.slice Ac nc cc, .int .i64 Nc] ∧ RowIn .u8 w3 (0) (w.heap.size) Aa na (pack xa) ∧ RowIn .u8 w3 (0) (w.heap.size) Ab nb xsb ∧ RowIn .u8 w3 (0) (w.heap.size) Ac nc xsc ∧ Below w.heap.size w w3 := by
      refine ⟨?_, ?_, ?_, ?_, ?_, ?_, ?_⟩
      all_goals repeat' (first | (with_reducible assumption) | (with_reducible exact Below.refl _ _) | (with_reducible refine Blk.after ?_ b3) | (with_reducible refine RowIn.belowS ?_ b3) | (with_reducible refine Below.after ?_ b3 ?_) | (with_reducible refine Blk.drewN ?_ _) | (with_reducible refine RowIn.drewN ?_ _) | (with_reducible refine below_drewN ?_ _) | (with_reducible refine Blk.drew ?_) | (with_reducible refine RowIn.drew ?_) | (with_reducible refine Below.drew ?_) | (with_reducible refine Blk.new' ?_ ?_ <;> first | (with_reducible rfl) | (simp; done)) | (with_reducible refine Blk.alloc ?_ _) | (with_reducible refine RowIn.alloc ?_ _) | (with_reducible refine Below.alloc ?_ ?_ _) | (with_reducible refine Blk.set' ?_ ?_) | (with_reducible refine Blk.far' ?_ ?_ _) | (with_reducible refine RowIn.far' ?_ ?_ _) | (with_reducible refine Below.far' ?_ ?_ _) | rfl | omega | go_size)
    clear za_2 zb_2 zc_2 ra_2 rb_2 rc_2 bb_2 ka_2 fa_2 la_2 kb_2 fb_2 lb_2 kc_2 fc_2 lc_2 b3
    have ka_3 := za_3.cell; have fa_3 := za_3.frozen; have la_3 := za_3.lt
    have kb_3 := zb_3.cell; have fb_3 := zb_3.frozen; have lb_3 := zb_3.lt
    have kc_3 := zc_3.cell; have fc_3 := zc_3.frozen; have lc_3 := zc_3.lt
    go_wp2
    go_ret
    refine ⟨rfl, ?_⟩
    repeat' (first | (with_reducible assumption) | (with_reducible exact Below.refl _ _) | (with_reducible refine Blk.drewN ?_ _) | (with_reducible refine RowIn.drewN ?_ _) | (with_reducible refine below_drewN ?_ _) | (with_reducible refine Blk.drew ?_) | (with_reducible refine RowIn.drew ?_) | (with_reducible refine Below.drew ?_) | (with_reducible refine Blk.new' ?_ ?_ <;> first | (with_reducible rfl) | (simp; done)) | (with_reducible refine Blk.alloc ?_ _) | (with_reducible refine RowIn.alloc ?_ _) | (with_reducible refine Below.alloc ?_ ?_ _) | (with_reducible refine Blk.set' ?_ ?_) | (with_reducible refine Blk.far' ?_ ?_ _) | (with_reducible refine RowIn.far' ?_ ?_ _) | (with_reducible refine Below.far' ?_ ?_ _) | rfl | omega | go_size)
  obtain ⟨xb, rfl, rfl, hlb⟩ := valid_bits hxb (Decidable.not_not.1 hvb)
  clear hvb
  by_cases hvc : ¬ Valid xsc Nc
  · go_enter Try.func8, Try.ntmps8
    go_wp2_with fail
    refine (rcheck_ok Aa na ca xa _ (by exact (((haa.alloc _).alloc _).alloc _)) (by omega) hla).mono ?_
    rintro e w1 ⟨rfl, b1⟩
    have s1 := b1.size
    try simp only [World.size_alloc, World.size_setCell, World.size_drew, size_drewN] at s1
    obtain ⟨za_1, zb_1, zc_1, ra_1, rb_1, rc_1, bb_1⟩ : Blk w1 (w.heap.size) 24 [.slice Aa na ca, .int .i64 ((xa.length : Nat) : Int)] ∧ Blk w1 (w.heap.size + 1) 24 [.slice Ab nb cb, .int .i64 ((xb.length : Nat) : Int)] ∧ Blk w1 (w.heap.size + 1 + 1) 24 [.slice Ac nc cc, .int .i64 Nc] ∧ RowIn .u8 w1 (0) (w.heap.size) Aa na (pack xa) ∧ RowIn .u8 w1 (0) (w.heap.size) Ab nb (pack xb) ∧ RowIn .u8 w1 (0) (w.heap.size) Ac nc xsc ∧ Below w.heap.size w w1 := by
      refine ⟨?_, ?_, ?_, ?_, ?_, ?_, ?_⟩
      all_goals repeat' (first | (with_reducible assumption) | (with_reducible exact Below.refl _ _) | (with_reducible refine Blk.after ?_ b1) | (with_reducible refine RowIn.belowS ?_ b1) | (with_reducible refine Below.after ?_ b1 ?_) | (with_reducible refine Blk.drewN ?_ _) | (with_reducible refine RowIn.drewN ?_ _) | (with_reducible refine below_drewN ?_ _) | (with_reducible refine Blk.drew ?_) | (with_reducible refine RowIn.drew ?_) | (with_reducible refine Below.drew ?_) | (with_reducible refine Blk.new' ?_ ?_ <;> first | (with_reducible rfl) | (simp; done)) | (with_reducible refine Blk.alloc ?_ _) | (with_reducible refine RowIn.alloc ?_ _) | (with_reducible refine Below.alloc ?_ ?_ _) | (with_reducible refine Blk.set' ?_ ?_) | (with_reducible refine Blk.far' ?_ ?_ _) | (with_reducible refine RowIn.far' ?_ ?_ _) | (with_reducible refine Below.far' ?_ ?_ _) | rfl | omega | go_size)
    clear b1
    have ka_1 := za_1.cell; have fa_1 := za_1.frozen; have la_1 := za_1.lt
    have kb_1 := zb_1.cell; have fb_1 := zb_1.frozen; have lb_1 := zb_1.lt
    have kc_1 := zc_1.cell; have fc_1 := zc_1.frozen; have lc_1 := zc_1.lt
    go_wp2_with fail
    refine (rcheck_ok Ab nb cb xb _ rb_1.row (by omega) hlb).mono ?_
    rintro e w2 ⟨rfl, b2⟩
    have s2 := b2.size
    try simp only [World.size_alloc, World.size_setCell, World.size_drew, size_drewN] at s2
    obtain ⟨za_2, zb_2, zc_2, ra_2, rb_2, rc_2, bb_2⟩ : Blk w2 (w.heap.size) 24 [.slice Aa na ca, .int .i64 ((xa.length : Nat) : Int)] ∧ Blk w2 (w.heap.size + 1) 24 [.slice Ab nb cb, .int .i64 ((xb.length : Nat) : Int)] ∧ Blk w2 (w.heap.size + 1 + 1) 24 [.slice Ac nc cc, .int .i64 Nc] ∧ RowIn .u8 w2 (0) (w.heap.size) Aa na (pack xa) ∧ RowIn .u8 w2 (0) (w.heap.size) Ab nb (pack xb) ∧ RowIn .u8 w2 (0) (w.heap.size) Ac nc xsc ∧ Below w.heap.size w w2 := by
      refine ⟨?_, ?_, ?_, ?_, ?_, ?_, ?_⟩
      all_goals repeat' (first | (with_reducible assumption) | (with_reducible exact Below.refl _ _) | (with_reducible refine Blk.after ?_ b2) | (with_reducible refine RowIn.belowS ?_ b2) | (with_reducible refine Below.after ?_ b2 ?_) | (with_reducible refine Blk.drewN ?_ _) | (with_reducible refine RowIn.drewN ?_ _) | (with_reducible refine below_drewN ?_ _) | (with_reducible refine Blk.drew ?_) | (with_reducible refine RowIn.drew ?_) | (with_reducible refine Below.drew ?_) | (with_reducible refine Blk.new' ?_ ?_ <;> first | (with_reducible rfl) | (simp; done)) | (with_reducible refine Blk.alloc ?_ _) | (with_reducible refine RowIn.alloc ?_ _) | (with_reducible refine Below.alloc ?_ ?_ _) | (with_reducible refine Blk.set' ?_ ?_) | (with_reducible refine Blk.far' ?_ ?_ _) | (with_reducible refine RowIn.far' ?_ ?_ _) | (with_reducible refine Below.far' ?_ ?_ _) | rfl | omega | go_size)
    clear za_1 zb_1 zc_1 ra_1 rb_1 rc_1 bb_1 ka_1 fa_1 la_1 kb_1 fb_1 lb_1 kc_1 fc_1 lc_1 b2
    have ka_2 := za_2.cell; have fa_2 := za_2.frozen; have la_2 := za_2.lt
    have kb_2 := zb_2.cell; have fb_2 := zb_2.frozen; have lb_2 := zb_2.lt
    have kc_2 := zc_2.cell; have fc_2 := zc_2.frozen; have lc_2 := zc_2.lt
    go_wp2_with fail
    refine (rcheck_bad Ac nc cc Nc xsc _ rc_2.row hxc (by omega) hvc).mono ?_
    rintro e w3 ⟨rfl, b3⟩
    have s3 := b3.size
    try simp only [World.size_alloc, World.size_setCell, World.size_drew, size_drewN] at s3
    obtain ⟨za_3, zb_3, zc_3, ra_3, rb_3, rc_3, bb_3⟩ : Blk w3 (w.heap.size) 24 [.slice Aa na ca, .int .i64 ((xa.length : Nat) : Int)] ∧ Blk w3 (w.heap.size + 1) 24 [.slice Ab nb cb, .int .i64 ((xb.length : Nat) : Int)] ∧ Blk w3 (w.heap.size + 1 + 1) 24 [.slice Ac nc cc, .int .i64 Nc] ∧ RowIn .u8 w3 (0) (w.heap.size) Aa na (pack xa) ∧ RowIn .u8 w3 (0) (w.heap.size) Ab nb (pack xb) ∧ RowIn .u8 w3 (0) (w.heap.size) Ac nc xsc ∧ Below w.heap.size w w3 := by
      refine ⟨?_, ?_, ?_, ?_, ?_, ?_, ?_⟩
      all_goals repeat' (first | (with_reducible assumption) | (with_reducible exact Below.refl _ _) | (with_reducible refine Blk.after ?_ b3) | (with_reducible refine RowIn.belowS ?_ b3) | (with_reducible refine Below.after ?_ b3 ?_) | (with_reducible refine Blk.drewN ?_ _) | (with_reducible refine RowIn.drewN ?_ _) | (with_reducible refine below_drewN ?_ _) | (with_reducible refine Blk.drew ?_) | (with_reducible refine RowIn.drew ?_) | (with_reducible refine Below.drew ?_) | (with_reducible refine Blk.new' ?_ ?_ <;> first | (with_reducible rfl) | (simp; done)) | (with_reducible refine Blk.alloc ?_ _) | (with_reducible refine RowIn.alloc ?_ _) | (with_reducible refine Below.alloc ?_ ?_ _) | (with_reducible refine Blk.set' ?_ ?_) | (with_reducible refine Blk.far' ?_ ?_ _) | (with_reducible refine RowIn.far' ?_ ?_ _) | (with_reducible refine Below.far' ?_ ?_ _) | rfl | omega | go_size)
    clear za_2 zb_2 zc_2 ra_2 rb_2 rc_2 bb_2 ka_2 fa_2 la_2 kb_2 fb_2 lb_2 kc_2 fc_2 lc_2 b3
    have ka_3 := za_3.cell; have fa_3 := za_3.frozen; have la_3 := za_3.lt
    have kb_3 := zb_3.cell; have fb_3 := zb_3.frozen; have lb_3 := zb_3.lt
    have kc_3 := zc_3.cell; have fc_3 := zc_3.frozen; have lc_3 := zc_3.lt
    go_wp2_with fail
    refine (alive02 _).mono ?_
    rintro e w4 ⟨rfl, b4⟩
    have s4 := b4.size
    try simp only [World.size_alloc, World.size_setCell, World.size_drew, size_drewN] at s4
    obtain ⟨za_4, zb_4, zc_4, ra_4, rb_4, rc_4, bb_4⟩ : Blk w4 (w.heap.size) 24 [.slice Aa na ca, .int .i64 ((xa.length : Nat) : Int)] ∧ Blk w4 (w.heap.size + 1) 24 [.slice Ab nb cb, .int .i64 ((xb.length : Nat) : Int)] ∧ Blk w4 (w.heap.size + 1 + 1) 24 [.slice Ac nc cc, .int .i64 Nc] ∧ RowIn .u8 w4 (0) (w.heap.size) Aa na (pack xa) ∧ RowIn .u8 w4 (0) (w.heap.size) Ab nb (pack xb) ∧ RowIn .u8 w4 (0) (w.heap.size) Ac nc xsc ∧ Below w.heap.size w w4 := by
      refine ⟨?_, ?_, ?_, ?_, ?_, ?_, ?_⟩
      all_goals repeat' (first | (with_reducible assumption) | (with_reducible exact Below.refl _ _) | (with_reducible refine Blk.after ?_ b4) | (with_reducible refine RowIn.belowS ?_ b4) | (with_reducible refine Below.after ?_ b4 ?_) | (with_reducible refine Blk.drewN ?_ _) | (with_reducible refine RowIn.drewN ?_ _) | (with_reducible refine below_drewN ?_ _) | (with_reducible refine Blk.drew ?_) | (with_reducible refine RowIn.drew ?_) | (with_reducible refine Below.drew ?_) | (with_reducible refine Blk.new' ?_ ?_ <;> first | (with_reducible rfl) | (simp; done)) | (with_reducible refine Blk.alloc ?_ _) | (with_reducible refine RowIn.alloc ?_ _) | (with_reducible refine Below.alloc ?_ ?_ _) | (with_reducible refine Blk.set' ?_ ?_) | (with_reducible refine Blk.far' ?_ ?_ _) | (with_reducible refine RowIn.far' ?_ ?_ _) | (with_reducible refine Below.far' ?_ ?_ _) | rfl | omega | go_size)
    clear za_3 zb_3 zc_3 ra_3 rb_3 rc_3 bb_3 ka_3 fa_3 la_3 kb_3 fb_3 lb_3 kc_3 fc_3 lc_3 b4
    have ka_4 := za_4.cell; have fa_4 := za_4.frozen; have la_4 := za_4.lt
    have kb_4 := zb_4.cell; have fb_4 := zb_4.frozen; have lb_4 := zb_4.lt
    have kc_4 := zc_4.cell; have fc_4 := zc_4.frozen; have lc_4 := zc_4.lt
    go_wp2
    go_ret
    refine ⟨rfl, ?_⟩
    repeat' (first | (with_reducible assumption) | (with_reducible exact Below.refl _ _) | (with_reducible refine Blk.drewN ?_ _) | (with_reducible refine RowIn.drewN ?_ _) | (with_reducible refine below_drewN ?_ _) | (with_reducible refine Blk.drew ?_) | (with_reducible refine RowIn.drew ?_) | (with_reducible refine Below.drew ?_) | (with_reducible refine Blk.new' ?_ ?_ <;> first | (with_reducible rfl) | (simp; done)) | (with_reducible refine Blk.alloc ?_ _) | (with_reducible refine RowIn.alloc ?_ _) | (with_reducible refine Below.alloc ?_ ?_ _) | (with_reducible refine Blk.set' ?_ ?_) | (with_reducible refine Blk.far' ?_ ?_ _) | (with_reducible refine RowIn.far' ?_ ?_ _) | (with_reducible refine Below.far' ?_ ?_ _) | rfl | omega | go_size)
  obtain ⟨xc, rfl, rfl, hlc⟩ := valid_bits hxc (Decidable.not_not.1 hvc)
  clear hvc
  by_cases h1 : 1500 < xa.length
  · go_enter Try.func8, Try.ntmps8
    go_wp2_with fail
    refine (rcheck_ok Aa na ca xa _ (by exact (((haa.alloc _).alloc _).alloc _)) (by omega) hla).mono ?_
    rintro e w1 ⟨rfl, b1⟩
    have s1 := b1.size
    try simp only [World.size_alloc, World.size_setCell, World.size_drew, size_drewN] at s1
    obtain ⟨za_1, zb_1, zc_1, ra_1, rb_1, rc_1, bb_1⟩ : Blk w1 (w.heap.size) 24 [.slice Aa na ca, .int .i64 ((xa.length : Nat) : Int)] ∧ Blk w1 (w.heap.size + 1) 24 [.slice Ab nb cb, .int .i64 ((xb.length : Nat) : Int)] ∧ Blk w1 (w.heap.size + 1 + 1) 24 [.slice Ac nc cc, .int .i64 ((xc.length : Nat) : Int)] ∧ RowIn .u8 w1 (0) (w.heap.size) Aa na (pack xa) ∧ RowIn .u8 w1 (0) (w.heap.size) Ab nb (pack xb) ∧ RowIn .u8 w1 (0) (w.heap.size) Ac nc (pack xc) ∧ Below w.heap.size w w1 := by
      refine ⟨?_, ?_, ?_, ?_, ?_, ?_, ?_⟩
      all_goals repeat' (first | (with_reducible assumption) | (with_reducible exact Below.refl _ _) | (with_reducible refine Blk.after ?_ b1) | (with_reducible refine RowIn.belowS ?_ b1) | (with_reducible refine Below.after ?_ b1 ?_) | (with_reducible refine Blk.drewN ?_ _) | (with_reducible refine RowIn.drewN ?_ _) | (with_reducible refine below_drewN ?_ _) | (with_reducible refine Blk.drew ?_) | (with_reducible refine RowIn.drew ?_) | (with_reducible refine Below.drew ?_) | (with_reducible refine Blk.new' ?_ ?_ <;> first | (with_reducible rfl) | (simp; done)) | (with_reducible refine Blk.alloc ?_ _) | (with_reducible refine RowIn.alloc ?_ _) | (with_reducible refine Below.alloc ?_ ?_ _) | (with_reducible refine Blk.set' ?_ ?_) | (with_reducible refine Blk.far' ?_ ?_ _) | (with_reducible refine RowIn.far' ?_ ?_ _) | (with_reducible refine Below.far' ?_ ?_ _) | rfl | omega | go_size)
    clear b1
    have ka_1 := za_1.cell; have fa_1 := za_1.frozen; have la_1 := za_1.lt
    have kb_1 := zb_1.cell; have fb_1 := zb_1.frozen; have lb_1 := zb_1.lt
    have kc_1 := zc_1.cell; have fc_1 := zc_1.frozen; have lc_1 := zc_1.lt
    go_wp2_with fail
    refine (rcheck_ok Ab nb cb xb _ rb_1.row (by omega) hlb).mono ?_
    rintro e w2 ⟨rfl, b2⟩
    have s2 := b2.size
    try simp only [World.size_alloc, World.size_setCell, World.size_drew, size_drewN] at s2
    obtain ⟨za_2, zb_2, zc_2, ra_2, rb_2, rc_2, bb_2⟩ : Blk w2 (w.heap.size) 24 [.slice Aa na ca, .int .i64 ((xa.length : Nat) : Int)] ∧ Blk w2 (w.heap.size + 1) 24 [.slice Ab nb cb, .int .i64 ((xb.length : Nat) : Int)] ∧ Blk w2 (w.heap.size + 1 + 1) 24 [.slice Ac nc cc, .int .i64 ((xc.length : Nat) : Int)] ∧ RowIn .u8 w2 (0) (w.heap.size) Aa na (pack xa) ∧ RowIn .u8 w2 (0) (w.heap.size) Ab nb (pack xb) ∧ RowIn .u8 w2 (0) (w.heap.size) Ac nc (pack xc) ∧ Below w.heap.size w w2 := by
      refine ⟨?_, ?_, ?_, ?_, ?_, ?_, ?_⟩
      all_goals repeat' (first | (with_reducible assumption) | (with_reducible exact Below.refl _ _) | (with_reducible refine Blk.after ?_ b2) | (with_reducible refine RowIn.belowS ?_ b2) | (with_reducible refine Below.after ?_ b2 ?_) | (with_reducible refine Blk.drewN ?_ _) | (with_reducible refine RowIn.drewN ?_ _) | (with_reducible refine below_drewN ?_ _) | (with_reducible refine Blk.drew ?_) | (with_reducible refine RowIn.drew ?_) | (with_reducible refine Below.drew ?_) | (with_reducible refine Blk.new' ?_ ?_ <;> first | (with_reducible rfl) | (simp; done)) | (with_reducible refine Blk.alloc ?_ _) | (with_reducible refine RowIn.alloc ?_ _) | (with_reducible refine Below.alloc ?_ ?_ _) | (with_reducible refine Blk.set' ?_ ?_) | (with_reducible refine Blk.far' ?_ ?_ _) | (with_reducible refine RowIn.far' ?_ ?_ _) | (with_reducible refine Below.far' ?_ ?_ _) | rfl | omega | go_size)
    clear za_1 zb_1 zc_1 ra_1 rb_1 rc_1 bb_1 ka_1 fa_1 la_1 kb_1 fb_1 lb_1 kc_1 fc_1 lc_1 b2
    have ka_2 := za_2.cell; have fa_2 := za_2.frozen; have la_2 := za_2.lt
    have kb_2 := zb_2.cell; have fb_2 := zb_2.frozen; have lb_2 := zb_2.lt
    have kc_2 := zc_2.cell; have fc_2 := zc_2.frozen; have lc_2 := zc_2.lt
    go_wp2_with fail
    refine (rcheck_ok Ac nc cc xc _ rc_2.row (by omega) hlc).mono ?_
    rintro e w3 ⟨rfl, b3⟩
    have s3 := b3.size
    try simp only [World.size_alloc, World.size_setCell, World.size_drew, size_drewN] at s3
    obtain ⟨za_3, zb_3, zc_3, ra_3, rb_3, rc_3, bb_3⟩ : Blk w3 (w.heap.size) 24 [.slice Aa na ca, .int .i64 ((xa.length : Nat) : Int)] ∧ Blk w3 (w.heap.size + 1) 24 [.slice Ab nb cb, .int .i64 ((xb.length : Nat) : Int)] ∧ Blk w3 (w.heap.size + 1 + 1) 24 [.slice Ac nc cc, .int .i64 ((xc.length : Nat) : Int)] ∧ RowIn .u8 w3 (0) (w.heap.size) Aa na (pack xa) ∧ RowIn .u8 w3 (0) (w.heap.size) Ab nb (pack xb) ∧ RowIn .u8 w3 (0) (w.heap.size) Ac nc (pack xc) ∧ Below w.heap.size w w3 := by
      refine ⟨?_, ?_, ?_, ?_, ?_, ?_, ?_⟩
      all_goals repeat' (first | (with_reducible assumption) | (with_reducible exact Below.refl _ _) | (with_reducible refine Blk.after ?_ b3) | (with_reducible refine RowIn.belowS ?_ b3) | (with_reducible refine Below.after ?_ b3 ?_) | (with_reducible refine Blk.drewN ?_ _) | (with_reducible refine RowIn.drewN ?_ _) | (with_reducible refine below_drewN ?_ _) | (with_reducible refine Blk.drew ?_) | (with_reducible refine RowIn.drew ?_) | (with_reducible refine Below.drew ?_) | (with_reducible refine Blk.new' ?_ ?_ <;> first | (with_reducible rfl) | (simp; done)) | (with_reducible refine Blk.alloc ?_ _) | (with_reducible refine RowIn.alloc ?_ _) | (with_reducible refine Below.alloc ?_ ?_ _) | (with_reducible refine Blk.set' ?_ ?_) | (with_reducible refine Blk.far' ?_ ?_ _) | (with_reducible refine RowIn.far' ?_ ?_ _) | (with_reducible refine Below.far' ?_ ?_ _) | rfl | omega | go_size)
    clear za_2 zb_2 zc_2 ra_2 rb_2 rc_2 bb_2 ka_2 fa_2 la_2 kb_2 fb_2 lb_2 kc_2 fc_2 lc_2 b3
    have ka_3 := za_3.cell; have fa_3 := za_3.frozen; have la_3 := za_3.lt
    have kb_3 := zb_3.cell; have fb_3 := zb_3.frozen; have lb_3 := zb_3.lt
    have kc_3 := zc_3.cell; have fc_3 := zc_3.frozen; have lc_3 := zc_3.lt
    go_wp2_with fail
    refine (alive02 _).mono ?_
    rintro e w4 ⟨rfl, b4⟩
    have s4 := b4.size
    try simp only [World.size_alloc, World.size_setCell, World.size_drew, size_drewN] at s4
    obtain ⟨za_4, zb_4, zc_4, ra_4, rb_4, rc_4, bb_4⟩ : Blk w4 (w.heap.size) 24 [.slice Aa na ca, .int .i64 ((xa.length : Nat) : Int)] ∧ Blk w4 (w.heap.size + 1) 24 [.slice Ab nb cb, .int .i64 ((xb.length : Nat) : Int)] ∧ Blk w4 (w.heap.size + 1 + 1) 24 [.slice Ac nc cc, .int .i64 ((xc.length : Nat) : Int)] ∧ RowIn .u8 w4 (0) (w.heap.size) Aa na (pack xa) ∧ RowIn .u8 w4 (0) (w.heap.size) Ab nb (pack xb) ∧ RowIn .u8 w4 (0) (w.heap.size) Ac nc (pack xc) ∧ Below w.heap.size w w4 := by
      refine ⟨?_, ?_, ?_, ?_, ?_, ?_, ?_⟩
      all_goals repeat' (first | (with_reducible assumption) | (with_reducible exact Below.refl _ _) | (with_reducible refine Blk.after ?_ b4) | (with_reducible refine RowIn.belowS ?_ b4) | (with_reducible refine Below.after ?_ b4 ?_) | (with_reducible refine Blk.drewN ?_ _) | (with_reducible refine RowIn.drewN ?_ _) | (with_reducible refine below_drewN ?_ _) | (with_reducible refine Blk.drew ?_) | (with_reducible refine RowIn.drew ?_) | (with_reducible refine Below.drew ?_) | (with_reducible refine Blk.new' ?_ ?_ <;> first | (with_reducible rfl) | (simp; done)) | (with_reducible refine Blk.alloc ?_ _) | (with_reducible refine RowIn.alloc ?_ _) | (with_reducible refine Below.alloc ?_ ?_ _) | (with_reducible refine Blk.set' ?_ ?_) | (with_reducible refine Blk.far' ?_ ?_ _) | (with_reducible refine RowIn.far' ?_ ?_ _) | (with_reducible refine Below.far' ?_ ?_ _) | rfl | omega | go_size)
    clear za_3 zb_3 zc_3 ra_3 rb_3 rc_3 bb_3 ka_3 fa_3 la_3 kb_3 fb_3 lb_3 kc_3 fc_3 lc_3 b4
    have ka_4 := za_4.cell; have fa_4 := za_4.frozen; have la_4 := za_4.lt
    have kb_4 := zb_4.cell; have fb_4 := zb_4.frozen; have lb_4 := zb_4.lt
    have kc_4 := zc_4.cell; have fc_4 := zc_4.frozen; have lc_4 := zc_4.lt
    go_wp2
    go_ret
    refine ⟨rfl, ?_⟩
    repeat' (first | (with_reducible assumption) | (with_reducible exact Below.refl _ _) | (with_reducible refine Blk.drewN ?_ _) | (with_reducible refine RowIn.drewN ?_ _) | (with_reducible refine below_drewN ?_ _) | (with_reducible refine Blk.drew ?_) | (with_reducible refine RowIn.drew ?_) | (with_reducible refine Below.drew ?_) | (with_reducible refine Blk.new' ?_ ?_ <;> first | (with_reducible rfl) | (simp; done)) | (with_reducible refine Blk.alloc ?_ _) | (with_reducible refine RowIn.alloc ?_ _) | (with_reducible refine Below.alloc ?_ ?_ _) | (with_reducible refine Blk.set' ?_ ?_) | (with_reducible refine Blk.far' ?_ ?_ _) | (with_reducible refine RowIn.far' ?_ ?_ _) | (with_reducible refine Below.far' ?_ ?_ _) | rfl | omega | go_size)
  by_cases h2 : 1500 < xb.length
  · go_enter Try.func8, Try.ntmps8
    go_wp2_with fail
    refine (rcheck_ok Aa na ca xa _ (by exact (((haa.alloc _).alloc _).alloc _)) (by omega) hla).mono ?_
    rintro e w1 ⟨rfl, b1⟩
    have s1 := b1.size
    try simp only [World.size_alloc, World.size_setCell, World.size_drew, size_drewN] at s1
    obtain ⟨za_1, zb_1, zc_1, ra_1, rb_1, rc_1, bb_1⟩ : Blk w1 (w.heap.size) 24 [.slice Aa na ca, .int .i64 ((xa.length : Nat) : Int)] ∧ Blk w1 (w.heap.size + 1) 24 [.slice Ab nb cb, .int .i64 ((xb.length : Nat) : Int)] ∧ Blk w1 (w.heap.size + 1 + 1) 24 [.slice Ac nc cc, .int .i64 ((xc.length : Nat) : Int)] ∧ RowIn .u8 w1 (0) (w.heap.size) Aa na (pack xa) ∧ RowIn .u8 w1 (0) (w.heap.size) Ab nb (pack xb) ∧ RowIn .u8 w1 (0) (w.heap.size) Ac nc (pack xc) ∧ Below w.heap.size w w1 := by
      refine ⟨?_, ?_, ?_, ?_, ?_, ?_, ?_⟩
      all_goals repeat' (first | (with_reducible assumption) | (with_reducible exact Below.refl _ _) | (with_reducible refine Blk.after ?_ b1) | (with_reducible refine RowIn.belowS ?_ b1) | (with_reducible refine Below.after ?_ b1 ?_) | (with_reducible refine Blk.drewN ?_ _) | (with_reducible refine RowIn.drewN ?_ _) | (with_reducible refine below_drewN ?_ _) | (with_reducible refine Blk.drew ?_) | (with_reducible refine RowIn.drew ?_) | (with_reducible refine Below.drew ?_) | (with_reducible refine Blk.new' ?_ ?_ <;> first | (with_reducible rfl) | (simp; done)) | (with_reducible refine Blk.alloc ?_ _) | (with_reducible refine RowIn.alloc ?_ _) | (with_reducible refine Below.alloc ?_ ?_ _) | (with_reducible refine Blk.set' ?_ ?_) | (with_reducible refine Blk.far' ?_ ?_ _) | (with_reducible refine RowIn.far' ?_ ?_ _) | (with_reducible refine Below.far' ?_ ?_ _) | rfl | omega | go_size)
    clear b1
    have ka_1 := za_1.cell; have fa_1 := za_1.frozen; have la_1 := za_1.lt
    have kb_1 := zb_1.cell; have fb_1 := zb_1.frozen; have lb_1 := zb_1.lt
    have kc_1 := zc_1.cell; have fc_1 := zc_1.frozen; have lc_1 := zc_1.lt
    go_wp2_with fail
    refine (rcheck_ok Ab nb cb xb _ rb_1.row (by omega) hlb).mono ?_
    rintro e w2 ⟨rfl, b2⟩
    have s2 := b2.size
    try simp only [World.size_alloc, World.size_setCell, World.size_drew, size_drewN] at s2
    obtain ⟨za_2, zb_2, zc_2, ra_2, rb_2, rc_2, bb_2⟩ : Blk w2 (w.heap.size) 24 [.slice Aa na ca, .int .i64 ((xa.length : Nat) : Int)] ∧ Blk w2 (w.heap.size + 1) 24 [.slice Ab nb cb, .int .i64 ((xb.length : Nat) : Int)] ∧ Blk w2 (w.heap.size + 1 + 1) 24 [.slice Ac nc cc, .int .i64 ((xc.length : Nat) : Int)] ∧ RowIn .u8 w2 (0) (w.heap.size) Aa na (pack xa) ∧ RowIn .u8 w2 (0) (w.heap.size) Ab nb (pack xb) ∧ RowIn .u8 w2 (0) (w.heap.size) Ac nc (pack xc) ∧ Below w.heap.size w w2 := by
      refine ⟨?_, ?_, ?_, ?_, ?_, ?_, ?_⟩
      all_goals repeat' (first | (with_reducible assumption) | (with_reducible exact Below.refl _ _) | (with_reducible refine Blk.after ?_ b2) | (with_reducible refine RowIn.belowS ?_ b2) | (with_reducible refine Below.after ?_ b2 ?_) | (with_reducible refine Blk.drewN ?_ _) | (with_reducible refine RowIn.drewN ?_ _) | (with_reducible refine below_drewN ?_ _) | (with_reducible refine Blk.drew ?_) | (with_reducible refine RowIn.drew ?_) | (with_reducible refine Below.drew ?_) | (with_reducible refine Blk.new' ?_ ?_ <;> first | (with_reducible rfl) | (simp; done)) | (with_reducible refine Blk.alloc ?_ _) | (with_reducible refine RowIn.alloc ?_ _) | (with_reducible refine Below.alloc ?_ ?_ _) | (with_reducible refine Blk.set' ?_ ?_) | (with_reducible refine Blk.far' ?_ ?_ _) | (with_reducible refine RowIn.far' ?_ ?_ _) | (with_reducible refine Below.far' ?_ ?_ _) | rfl | omega | go_size)
    clear za_1 zb_1 zc_1 ra_1 rb_1 rc_1 bb_1 ka_1 fa_1 la_1 kb_1 fb_1 lb_1 kc_1 fc_1 lc_1 b2
    have ka_2 := za_2.cell; have fa_2 := za_2.frozen; have la_2 := za_2.lt
    have kb_2 := zb_2.cell; have fb_2 := zb_2.frozen; have lb_2 := zb_2.lt
    have kc_2 := zc_2.cell; have fc_2 := zc_2.frozen; have lc_2 := zc_2.lt
    go_wp2_with fail
    refine (rcheck_ok Ac nc cc xc _ rc_2.row (by omega) hlc).mono ?_
    rintro e w3 ⟨rfl, b3⟩
    have s3 := b3.size
    try simp only [World.size_alloc, World.size_setCell, World.size_drew, size_drewN] at s3
    obtain ⟨za_3, zb_3, zc_3, ra_3, rb_3, rc_3, bb_3⟩ : Blk w3 (w.heap.size) 24 [.slice Aa na ca, .int .i64 ((xa.length : Nat) : Int)] ∧ Blk w3 (w.heap.size + 1) 24 [.slice Ab nb cb, .int .i64 ((xb.length : Nat) : Int)] ∧ Blk w3 (w.heap.size + 1 + 1) 24 [.slice Ac nc cc, .int .i64 ((xc.length : Nat) : Int)] ∧ RowIn .u8 w3 (0) (w.heap.size) Aa na (pack xa) ∧ RowIn .u8 w3 (0) (w.heap.size) Ab nb (pack xb) ∧ RowIn .u8 w3 (0) (w.heap.size) Ac nc (pack xc) ∧ Below w.heap.size w w3 := by
      refine ⟨?_, ?_, ?_, ?_, ?_, ?_, ?_⟩
      all_goals repeat' (first | (with_reducible assumption) | (with_reducible exact Below.refl _ _) | (with_reducible refine Blk.after ?_ b3) | (with_reducible refine RowIn.belowS ?_ b3) | (with_reducible refine Below.after ?_ b3 ?_) | (with_reducible refine Blk.drewN ?_ _) | (with_reducible refine RowIn.drewN ?_ _) | (with_reducible refine below_drewN ?_ _) | (with_reducible refine Blk.drew ?_) | (with_reducible refine RowIn.drew ?_) | (with_reducible refine Below.drew ?_) | (with_reducible refine Blk.new' ?_ ?_ <;> first | (with_reducible rfl) | (simp; done)) | (with_reducible refine Blk.alloc ?_ _) | (with_reducible refine RowIn.alloc ?_ _) | (with_reducible refine Below.alloc ?_ ?_ _) | (with_reducible refine Blk.set' ?_ ?_) | (with_reducible refine Blk.far' ?_ ?_ _) | (with_reducible refine RowIn.far' ?_ ?_ _) | (with_reducible refine Below.far' ?_ ?_ _) | rfl | omega | go_size)
    clear za_2 zb_2 zc_2 ra_2 rb_2 rc_2 bb_2 ka_2 fa_2 la_2 kb_2 fb_2 lb_2 kc_2 fc_2 lc_2 b3
    have ka_3 := za_3.cell; have fa_3 := za_3.frozen; have la_3 := za_3.lt
    have kb_3 := zb_3.cell; have fb_3 := zb_3.frozen; have lb_3 := zb_3.lt
    have kc_3 := zc_3.cell; have fc_3 := zc_3.frozen; have lc_3 := zc_3.lt
    go_wp2_with fail
    refine (alive02 _).mono ?_
    rintro e w4 ⟨rfl, b4⟩
    have s4 := b4.size
    try simp only [World.size_alloc, World.size_setCell, World.size_drew, size_drewN] at s4
    obtain ⟨za_4, zb_4, zc_4, ra_4, rb_4, rc_4, bb_4⟩ : Blk w4 (w.heap.size) 24 [.slice Aa na ca, .int .i64 ((xa.length : Nat) : Int)] ∧ Blk w4 (w.heap.size + 1) 24 [.slice Ab nb cb, .int .i64 ((xb.length : Nat) : Int)] ∧ Blk w4 (w.heap.size + 1 + 1) 24 [.slice Ac nc cc, .int .i64 ((xc.length : Nat) : Int)] ∧ RowIn .u8 w4 (0) (w.heap.size) Aa na (pack xa) ∧ RowIn .u8 w4 (0) (w.heap.size) Ab nb (pack xb) ∧ RowIn .u8 w4 (0) (w.heap.size) Ac nc (pack xc) ∧ Below w.heap.size w w4 := by
      refine ⟨?_, ?_, ?_, ?_, ?_, ?_, ?_⟩
      all_goals repeat' (first | (with_reducible assumption) | (with_reducible exact Below.refl _ _) | (with_reducible refine Blk.after ?_ b4) | (with_reducible refine RowIn.belowS ?_ b4) | (with_reducible refine Below.after ?_ b4 ?_) | (with_reducible refine Blk.drewN ?_ _) | (with_reducible refine RowIn.drewN ?_ _) | (with_reducible refine below_drewN ?_ _) | (with_reducible refine Blk.drew ?_) | (with_reducible refine RowIn.drew ?_) | (with_reducible refine Below.drew ?_) | (with_reducible refine Blk.new' ?_ ?_ <;> first | (with_reducible rfl) | (simp; done)) | (with_reducible refine Blk.alloc ?_ _) | (with_reducible refine RowIn.alloc ?_ _) | (with_reducible refine Below.alloc ?_ ?_ _) | (with_reducible refine Blk.set' ?_ ?_) | (with_reducible refine Blk.far' ?_ ?_ _) | (with_reducible refine RowIn.far' ?_ ?_ _) | (with_reducible refine Below.far' ?_ ?_ _) | rfl | omega | go_size)
    clear za_3 zb_3 zc_3 ra_3 rb_3 rc_3 bb_3 ka_3 fa_3 la_3 kb_3 fb_3 lb_3 kc_3 fc_3 lc_3 b4
    have ka_4 := za_4.cell; have fa_4 := za_4.frozen; have la_4 := za_4.lt
    have kb_4 := zb_4.cell; have fb_4 := zb_4.frozen; have lb_4 := zb_4.lt
    have kc_4 := zc_4.cell; have fc_4 := zc_4.frozen; have lc_4 := zc_4.lt
    go_wp2
    go_ret
    refine ⟨rfl, ?_⟩
    repeat' (first | (with_reducible assumption) | (with_reducible exact Below.refl _ _) | (with_reducible refine Blk.drewN ?_ _) | (with_reducible refine RowIn.drewN ?_ _) | (with_reducible refine below_drewN ?_ _) | (with_reducible refine Blk.drew ?_) | (with_reducible refine RowIn.drew ?_) | (with_reducible refine Below.drew ?_) | (with_reducible refine Blk.new' ?_ ?_ <;> first | (with_reducible rfl) | (simp; done)) | (with_reducible refine Blk.alloc ?_ _) | (with_reducible refine RowIn.alloc ?_ _) | (with_reducible refine Below.alloc ?_ ?_ _) | (with_reducible refine Blk.set' ?_ ?_) | (with_reducible refine Blk.far' ?_ ?_ _) | (with_reducible refine RowIn.far' ?_ ?_ _) | (with_reducible refine Below.far' ?_ ?_ _) | rfl | omega | go_size)
  by_cases h3 : 1500 < xc.length
  · go_enter Try.func8, Try.ntmps8
    go_wp2_with fail
    refine (rcheck_ok Aa na ca xa _ (by exact (((haa.alloc _).alloc _).alloc _)) (by omega) hla).mono ?_
    rintro e w1 ⟨rfl, b1⟩
    have s1 := b1.size
    try simp only [World.size_alloc, World.size_setCell, World.size_drew, size_drewN] at s1
    obtain ⟨za_1, zb_1, zc_1, ra_1, rb_1, rc_1, bb_1⟩ : Blk w1 (w.heap.size) 24 [.slice Aa na ca, .int .i64 ((xa.length : Nat) : Int)] ∧ Blk w1 (w.heap.size + 1) 24 [.slice Ab nb cb, .int .i64 ((xb.length : Nat) : Int)] ∧ Blk w1 (w.heap.size + 1 + 1) 24 [.slice Ac nc cc, .int .i64 ((xc.length : Nat) : Int)] ∧ RowIn .u8 w1 (0) (w.heap.size) Aa na (pack xa) ∧ RowIn .u8 w1 (0) (w.heap.size) Ab nb (pack xb) ∧ RowIn .u8 w1 (0) (w.heap.size) Ac nc (pack xc) ∧ Below w.heap.size w w1 := by
      refine ⟨?_, ?_, ?_, ?_, ?_, ?_, ?_⟩
      all_goals repeat' (first | (with_reducible assumption) | (with_reducible exact Below.refl _ _) | (with_reducible refine Blk.after ?_ b1) | (with_reducible refine RowIn.belowS ?_ b1) | (with_reducible refine Below.after ?_ b1 ?_) | (with_reducible refine Blk.drewN ?_ _) | (with_reducible refine RowIn.drewN ?_ _) | (with_reducible refine below_drewN ?_ _) | (with_reducible refine Blk.drew ?_) | (with_reducible refine RowIn.drew ?_) | (with_reducible refine Below.drew ?_) | (with_reducible refine Blk.new' ?_ ?_ <;> first | (with_reducible rfl) | (simp; done)) | (with_reducible refine Blk.alloc ?_ _) | (with_reducible refine RowIn.alloc ?_ _) | (with_reducible refine Below.alloc ?_ ?_ _) | (with_reducible refine Blk.set' ?_ ?_) | (with_reducible refine Blk.far' ?_ ?_ _) | (with_reducible refine RowIn.far' ?_ ?_ _) | (with_reducible refine Below.far' ?_ ?_ _) | rfl | omega | go_size)
    clear b1
    have ka_1 := za_1.cell; have fa_1 := za_1.frozen; have la_1 := za_1.lt
    have kb_1 := zb_1.cell; have fb_1 := zb_1.frozen; have lb_1 := zb_1.lt
    have kc_1 := zc_1.cell; have fc_1 := zc_1.frozen; have lc_1 := zc_1.lt
    go_wp2_with fail
    refine (rcheck_ok Ab nb cb xb _ rb_1.row (by omega) hlb).mono ?_
    rintro e w2 ⟨rfl, b2⟩
    have s2 := b2.size
    try simp only [World.size_alloc, World.size_setCell, World.size_drew, size_drewN] at s2
    obtain ⟨za_2, zb_2, zc_2, ra_2, rb_2, rc_2, bb_2⟩ : Blk w2 (w.heap.size) 24 [.slice Aa na ca, .int .i64 ((xa.length : Nat) : Int)] ∧ Blk w2 (w.heap.size + 1) 24 [.slice Ab nb cb, .int .i64 ((xb.length : Nat) : Int)] ∧ Blk w2 (w.heap.size + 1 + 1) 24 [.slice Ac nc cc, .int .i64 ((xc.length : Nat) : Int)] ∧ RowIn .u8 w2 (0) (w.heap.size) Aa na (pack xa) ∧ RowIn .u8 w2 (0) (w.heap.size) Ab nb (pack xb) ∧ RowIn .u8 w2 (0) (w.heap.size) Ac nc (pack xc) ∧ Below w.heap.size w w2 := by
      refine ⟨?_, ?_, ?_, ?_, ?_, ?_, ?_⟩
      all_goals repeat' (first | (with_reducible assumption) | (with_reducible exact Below.refl _ _) | (with_reducible refine Blk.after ?_ b2) | (with_reducible refine RowIn.belowS ?_ b2) | (with_reducible refine Below.after ?_ b2 ?_) | (with_reducible refine Blk.drewN ?_ _) | (with_reducible refine RowIn.drewN ?_ _) | (with_reducible refine below_drewN ?_ _) | (with_reducible refine Blk.drew ?_) | (with_reducible refine RowIn.drew ?_) | (with_reducible refine Below.drew ?_) | (with_reducible refine Blk.new' ?_ ?_ <;> first | (with_reducible rfl) | (simp; done)) | (with_reducible refine Blk.alloc ?_ _) | (with_reducible refine RowIn.alloc ?_ _) | (with_reducible refine Below.alloc ?_ ?_ _) | (with_reducible refine Blk.set' ?_ ?_) | (with_reducible refine Blk.far' ?_ ?_ _) | (with_reducible refine RowIn.far' ?_ ?_ _) | (with_reducible refine Below.far' ?_ ?_ _) | rfl | omega | go_size)
    clear za_1 zb_1 zc_1 ra_1 rb_1 rc_1 bb_1 ka_1 fa_1 la_1 kb_1 fb_1 lb_1 kc_1 fc_1 lc_1 b2
    have ka_2 := za_2.cell; have fa_2 := za_2.frozen; have la_2 := za_2.lt
    have kb_2 := zb_2.cell; have fb_2 := zb_2.frozen; have lb_2 := zb_2.lt
    have kc_2 := zc_2.cell; have fc_2 := zc_2.frozen; have lc_2 := zc_2.lt
    go_wp2_with fail
    refine (rcheck_ok Ac nc cc xc _ rc_2.row (by omega) hlc).mono ?_
    rintro e w3 ⟨rfl, b3⟩
    have s3 := b3.size
    try simp only [World.size_alloc, World.size_setCell, World.size_drew, size_drewN] at s3
    obtain ⟨za_3, zb_3, zc_3, ra_3, rb_3, rc_3, bb_3⟩ : Blk w3 (w.heap.size) 24 [.slice Aa na ca, .int .i64 ((xa.length : Nat) : Int)] ∧ Blk w3 (w.heap.size + 1) 24 [.slice Ab nb cb, .int .i64 ((xb.length : Nat) : Int)] ∧ Blk w3 (w.heap.size + 1 + 1) 24 [.slice Ac nc cc, .int .i64 ((xc.length : Nat) : Int)] ∧ RowIn .u8 w3 (0) (w.heap.size) Aa na (pack xa) ∧ RowIn .u8 w3 (0) (w.heap.size) Ab nb (pack xb) ∧ RowIn .u8 w3 (0) (w.heap.size) Ac nc (pack xc) ∧ Below w.heap.size w w3 := by
      refine ⟨?_, ?_, ?_, ?_, ?_, ?_, ?_⟩
      all_goals repeat' (first | (with_reducible assumption) | (with_reducible exact Below.refl _ _) | (with_reducible refine Blk.after ?_ b3) | (with_reducible refine RowIn.belowS ?_ b3) | (with_reducible refine Below.after ?_ b3 ?_) | (with_reducible refine Blk.drewN ?_ _) | (with_reducible refine RowIn.drewN ?_ _) | (with_reducible refine below_drewN ?_ _) | (with_reducible refine Blk.drew ?_) | (with_reducible refine RowIn.drew ?_) | (with_reducible refine Below.drew ?_) | (with_reducible refine Blk.new' ?_ ?_ <;> first | (with_reducible rfl) | (simp; done)) | (with_reducible refine Blk.alloc ?_ _) | (with_reducible refine RowIn.alloc ?_ _) | (with_reducible refine Below.alloc ?_ ?_ _) | (with_reducible refine Blk.set' ?_ ?_) | (with_reducible refine Blk.far' ?_ ?_ _) | (with_reducible refine RowIn.far' ?_ ?_ _) | (with_reducible refine Below.far' ?_ ?_ _) | rfl | omega | go_size)
    clear za_2 zb_2 zc_2 ra_2 rb_2 rc_2 bb_2 ka_2 fa_2 la_2 kb_2 fb_2 lb_2 kc_2 fc_2 lc_2 b3
    have ka_3 := za_3.cell; have fa_3 := za_3.frozen; have la_3 := za_3.lt
    have kb_3 := zb_3.cell; have fb_3 := zb_3.frozen; have lb_3 := zb_3.lt
    have kc_3 := zc_3.cell; have fc_3 := zc_3.frozen; have lc_3 := zc_3.lt
    go_wp2_with fail
    refine (alive02 _).mono ?_
    rintro e w4 ⟨rfl, b4⟩
    have s4 := b4.size
    try simp only [World.size_alloc, World.size_setCell, World.size_drew, size_drewN] at s4
    obtain ⟨za_4, zb_4, zc_4, ra_4, rb_4, rc_4, bb_4⟩ : Blk w4 (w.heap.size) 24 [.slice Aa na ca, .int .i64 ((xa.length : Nat) : Int)] ∧ Blk w4 (w.heap.size + 1) 24 [.slice Ab nb cb, .int .i64 ((xb.length : Nat) : Int)] ∧ Blk w4 (w.heap.size + 1 + 1) 24 [.slice Ac nc cc, .int .i64 ((xc.length : Nat) : Int)] ∧ RowIn .u8 w4 (0) (w.heap.size) Aa na (pack xa) ∧ RowIn .u8 w4 (0) (w.heap.size) Ab nb (pack xb) ∧ RowIn .u8 w4 (0) (w.heap.size) Ac nc (pack xc) ∧ Below w.heap.size w w4 := by
      refine ⟨?_, ?_, ?_, ?_, ?_, ?_, ?_⟩
      all_goals repeat' (first | (with_reducible assumption) | (with_reducible exact Below.refl _ _) | (with_reducible refine Blk.after ?_ b4) | (with_reducible refine RowIn.belowS ?_ b4) | (with_reducible refine Below.after ?_ b4 ?_) | (with_reducible refine Blk.drewN ?_ _) | (with_reducible refine RowIn.drewN ?_ _) | (with_reducible refine below_drewN ?_ _) | (with_reducible refine Blk.drew ?_) | (with_reducible refine RowIn.drew ?_) | (with_reducible refine Below.drew ?_) | (with_reducible refine Blk.new' ?_ ?_ <;> first | (with_reducible rfl) | (simp; done)) | (with_reducible refine Blk.alloc ?_ _) | (with_reducible refine RowIn.alloc ?_ _) | (with_reducible refine Below.alloc ?_ ?_ _) | (with_reducible refine Blk.set' ?_ ?_) | (with_reducible refine Blk.far' ?_ ?_ _) | (with_reducible refine RowIn.far' ?_ ?_ _) | (with_reducible refine Below.far' ?_ ?_ _) | rfl | omega | go_size)
    clear za_3 zb_3 zc_3 ra_3 rb_3 rc_3 bb_3 ka_3 fa_3 la_3 kb_3 fb_3 lb_3 kc_3 fc_3 lc_3 b4
    have ka_4 := za_4.cell; have fa_4 := za_4.frozen; have la_4 := za_4.lt
    have kb_4 := zb_4.cell; have fb_4 := zb_4.frozen; have lb_4 := zb_4.lt
    have kc_4 := zc_4.cell; have fc_4 := zc_4.frozen; have lc_4 := zc_4.lt
    go_wp2
    go_ret
    refine ⟨rfl, ?_⟩
    repeat' (first | (with_reducible assumption) | (with_reducible exact Below.refl _ _) | (with_reducible refine Blk.drewN ?_ _) | (with_reducible refine RowIn.drewN ?_ _) | (with_reducible refine below_drewN ?_ _) | (with_reducible refine Blk.drew ?_) | (with_reducible refine RowIn.drew ?_) | (with_reducible refine Below.drew ?_) | (with_reducible refine Blk.new' ?_ ?_ <;> first | (with_reducible rfl) | (simp; done)) | (with_reducible refine Blk.alloc ?_ _) | (with_reducible refine RowIn.alloc ?_ _) | (with_reducible refine Below.alloc ?_ ?_ _) | (with_reducible refine Blk.set' ?_ ?_) | (with_reducible refine Blk.far' ?_ ?_ _) | (with_reducible refine RowIn.far' ?_ ?_ _) | (with_reducible refine Below.far' ?_ ?_ _) | rfl | omega | go_size)
  go_enter Try.func8, Try.ntmps8
  go_wp2_with fail
  refine (rcheck_ok Aa na ca xa _ (by exact (((haa.alloc _).alloc _).alloc _)) (by omega) hla).mono ?_
  rintro e w1 ⟨rfl, b1⟩
  have s1 := b1.size
  try simp only [World.size_alloc, World.size_setCell, World.size_drew, size_drewN] at s1
  obtain ⟨za_1, zb_1, zc_1, ra_1, rb_1, rc_1, bb_1⟩ : Blk w1 (w.heap.size) 24 [.slice Aa na ca, .int .i64 ((xa.length : Nat) : Int)] ∧ Blk w1 (w.heap.size + 1) 24 [.slice Ab nb cb, .int .i64 ((xb.length : Nat) : Int)] ∧ Blk w1 (w.heap.size + 1 + 1) 24 [.slice Ac nc cc, .int .i64 ((xc.length : Nat) : Int)] ∧ RowIn .u8 w1 (0) (w.heap.size) Aa na (pack xa) ∧ RowIn .u8 w1 (0) (w.heap.size) Ab nb (pack xb) ∧ RowIn .u8 w1 (0) (w.heap.size) Ac nc (pack xc) ∧ Below w.heap.size w w1 := by
    refine ⟨?_, ?_, ?_, ?_, ?_, ?_, ?_⟩
    all_goals repeat' (first | (with_reducible assumption) | (with_reducible exact Below.refl _ _) | (with_reducible refine Blk.after ?_ b1) | (with_reducible refine RowIn.belowS ?_ b1) | (with_reducible refine Below.after ?_ b1 ?_) | (with_reducible refine Blk.drewN ?_ _) | (with_reducible refine RowIn.drewN ?_ _) | (with_reducible refine below_drewN ?_ _) | (with_reducible refine Blk.drew ?_) | (with_reducible refine RowIn.drew ?_) | (with_reducible refine Below.drew ?_) | (with_reducible refine Blk.new' ?_ ?_ <;> first | (with_reducible rfl) | (simp; done)) | (with_reducible refine Blk.alloc ?_ _) | (with_reducible refine RowIn.alloc ?_ _) | (with_reducible refine Below.alloc ?_ ?_ _) | (with_reducible refine Blk.set' ?_ ?_) | (with_reducible refine Blk.far' ?_ ?_ _) | (with_reducible refine RowIn.far' ?_ ?_ _) | (with_reducible refine Below.far' ?_ ?_ _) | rfl | omega | go_size)
  clear b1
  have ka_1 := za_1.cell; have fa_1 := za_1.frozen; have la_1 := za_1.lt
  have kb_1 := zb_1.cell; have fb_1 := zb_1.frozen; have lb_1 := zb_1.lt
  have kc_1 := zc_1.cell; have fc_1 := zc_1.frozen; have lc_1 := zc_1.lt
  go_wp2_with fail
  refine (rcheck_ok Ab nb cb xb _ rb_1.row (by omega) hlb).mono ?_
  rintro e w2 ⟨rfl, b2⟩
  have s2 := b2.size
  try simp only [World.size_alloc, World.size_setCell, World.size_drew, size_drewN] at s2
  obtain ⟨za_2, zb_2, zc_2, ra_2, rb_2, rc_2, bb_2⟩ : Blk w2 (w.heap.size) 24 [.slice Aa na ca, .int .i64 ((xa.length : Nat) : Int)] ∧ Blk w2 (w.heap.size + 1) 24 [.slice Ab nb cb, .int .i64 ((xb.length : Nat) : Int)] ∧ Blk w2 (w.heap.size + 1 + 1) 24 [.slice Ac nc cc, .int .i64 ((xc.length : Nat) : Int)] ∧ RowIn .u8 w2 (0) (w.heap.size) Aa na (pack xa) ∧ RowIn .u8 w2 (0) (w.heap.size) Ab nb (pack xb) ∧ RowIn .u8 w2 (0) (w.heap.size) Ac nc (pack xc) ∧ Below w.heap.size w w2 := by
    refine ⟨?_, ?_, ?_, ?_, ?_, ?_, ?_⟩
    all_goals repeat' (first | (with_reducible assumption) | (with_reducible exact Below.refl _ _) | (with_reducible refine Blk.after ?_ b2) | (with_reducible refine RowIn.belowS ?_ b2) | (with_reducible refine Below.after ?_ b2 ?_) | (with_reducible refine Blk.drewN ?_ _) | (with_reducible refine RowIn.drewN ?_ _) | (with_reducible refine below_drewN ?_ _) | (with_reducible refine Blk.drew ?_) | (with_reducible refine RowIn.drew ?_) | (with_reducible refine Below.drew ?_) | (with_reducible refine Blk.new' ?_ ?_ <;> first | (with_reducible rfl) | (simp; done)) | (with_reducible refine Blk.alloc ?_ _) | (with_reducible refine RowIn.alloc ?_ _) | (with_reducible refine Below.alloc ?_ ?_ _) | (with_reducible refine Blk.set' ?_ ?_) | (with_reducible refine Blk.far' ?_ ?_ _) | (with_reducible refine RowIn.far' ?_ ?_ _) | (with_reducible refine Below.far' ?_ ?_ _) | rfl | omega | go_size)
  clear za_1 zb_1 zc_1 ra_1 rb_1 rc_1 bb_1 ka_1 fa_1 la_1 kb_1 fb_1 lb_1 kc_1 fc_1 lc_1 b2
  have ka_2 := za_2.cell; have fa_2 := za_2.frozen; have la_2 := za_2.lt
  have kb_2 := zb_2.cell; have fb_2 := zb_2.frozen; have lb_2 := zb_2.lt
  have kc_2 := zc_2.cell; have fc_2 := zc_2.frozen; have lc_2 := zc_2.lt
  go_wp2_with fail
  refine (rcheck_ok Ac nc cc xc _ rc_2.row (by omega) hlc).mono ?_
  rintro e w3 ⟨rfl, b3⟩
  have s3 := b3.size
  try simp only [World.size_alloc, World.size_setCell, World.size_drew, size_drewN] at s3
  obtain ⟨za_3, zb_3, zc_3, ra_3, rb_3, rc_3, bb_3⟩ : Blk w3 (w.heap.size) 24 [.slice Aa na ca, .int .i64 ((xa.length : Nat) : Int)] ∧ Blk w3 (w.heap.size + 1) 24 [.slice Ab nb cb, .int .i64 ((xb.length : Nat) : Int)] ∧ Blk w3 (w.heap.size + 1 + 1) 24 [.slice Ac nc cc, .int .i64 ((xc.length : Nat) : Int)] ∧ RowIn .u8 w3 (0) (w.heap.size) Aa na (pack xa) ∧ RowIn .u8 w3 (0) (w.heap.size) Ab nb (pack xb) ∧ RowIn .u8 w3 (0) (w.heap.size) Ac nc (pack xc) ∧ Below w.heap.size w w3 := by
    refine ⟨?_, ?_, ?_, ?_, ?_, ?_, ?_⟩
    all_goals repeat' (first | (with_reducible assumption) | (with_reducible exact Below.refl _ _) | (with_reducible refine Blk.after ?_ b3) | (with_reducible refine RowIn.belowS ?_ b3) | (with_reducible refine Below.after ?_ b3 ?_) | (with_reducible refine Blk.drewN ?_ _) | (with_reducible refine RowIn.drewN ?_ _) | (with_reducible refine below_drewN ?_ _) | (with_reducible refine Blk.drew ?_) | (with_reducible refine RowIn.drew ?_) | (with_reducible refine Below.drew ?_) | (with_reducible refine Blk.new' ?_ ?_ <;> first | (with_reducible rfl) | (simp; done)) | (with_reducible refine Blk.alloc ?_ _) | (with_reducible refine RowIn.alloc ?_ _) | (with_reducible refine Below.alloc ?_ ?_ _) | (with_reducible refine Blk.set' ?_ ?_) | (with_reducible refine Blk.far' ?_ ?_ _) | (with_reducible refine RowIn.far' ?_ ?_ _) | (with_reducible refine Below.far' ?_ ?_ _) | rfl | omega | go_size)
  clear za_2 zb_2 zc_2 ra_2 rb_2 rc_2 bb_2 ka_2 fa_2 la_2 kb_2 fb_2 lb_2 kc_2 fc_2 lc_2 b3
  have ka_3 := za_3.cell; have fa_3 := za_3.frozen; have la_3 := za_3.lt
  have kb_3 := zb_3.cell; have fb_3 := zb_3.frozen; have lb_3 := zb_3.lt
  have kc_3 := zc_3.cell; have fc_3 := zc_3.frozen; have lc_3 := zc_3.lt
  go_wp2_with fail
  refine (bjoin_ok Aa Ab na ca nb cb xa xb _ ra_3.row rb_3.row hca hcb (by omega)).mono ?_
  rintro e w4 ⟨Aab, mab, cab, xab, rfl, hcab, rab, HXab, b4⟩
  have Lab : xab.length ≤ xa.length + xb.length ∧ xa.length + xb.length ≤ xab.length := by rw [HXab.out]; simp only [List.length_append, lowBits_len, List.length_nil, List.length_take, List.length_drop, unpack_len]; omega
  obtain ⟨Lab1, Lab2⟩ := Lab
  replace rab := rab.mono (lo' := w3.heap.size + 0) (by go_size) (Nat.le_refl _)
  have s4 := b4.size
  try simp only [World.size_alloc, World.size_setCell, World.size_drew, size_drewN] at s4
  obtain ⟨za_4, zb_4, zc_4, ra_4, rb_4, rc_4, rab_4, bb_4⟩ : Blk w4 (w.heap.size) 24 [.slice Aa na ca, .int .i64 ((xa.length : Nat) : Int)] ∧ Blk w4 (w.heap.size + 1) 24 [.slice Ab nb cb, .int .i64 ((xb.length : Nat) : Int)] ∧ Blk w4 (w.heap.size + 1 + 1) 24 [.slice Ac nc cc, .int .i64 ((xc.length : Nat) : Int)] ∧ RowIn .u8 w4 (0) (w.heap.size) Aa na (pack xa) ∧ RowIn .u8 w4 (0) (w.heap.size) Ab nb (pack xb) ∧ RowIn .u8 w4 (0) (w.heap.size) Ac nc (pack xc) ∧ RowIn .u8 w4 (w3.heap.size + 0) (w4.heap.size) Aab mab (pack xab) ∧ Below w.heap.size w w4 := by
    refine ⟨?_, ?_, ?_, ?_, ?_, ?_, ?_, ?_⟩
    all_goals repeat' (first | (with_reducible assumption) | (with_reducible exact Below.refl _ _) | (with_reducible refine Blk.after ?_ b4) | (with_reducible refine RowIn.belowS ?_ b4) | (with_reducible refine Below.after ?_ b4 ?_) | (with_reducible refine Blk.drewN ?_ _) | (with_reducible refine RowIn.drewN ?_ _) | (with_reducible refine below_drewN ?_ _) | (with_reducible refine Blk.drew ?_) | (with_reducible refine RowIn.drew ?_) | (with_reducible refine Below.drew ?_) | (with_reducible refine Blk.new' ?_ ?_ <;> first | (with_reducible rfl) | (simp; done)) | (with_reducible refine Blk.alloc ?_ _) | (with_reducible refine RowIn.alloc ?_ _) | (with_reducible refine Below.alloc ?_ ?_ _) | (with_reducible refine Blk.set' ?_ ?_) | (with_reducible refine Blk.far' ?_ ?_ _) | (with_reducible refine RowIn.far' ?_ ?_ _) | (with_reducible refine Below.far' ?_ ?_ _) | rfl | omega | go_size)
  clear za_3 zb_3 zc_3 ra_3 rb_3 rc_3 bb_3 ka_3 fa_3 la_3 kb_3 fb_3 lb_3 kc_3 fc_3 lc_3 b4
  have ka_4 := za_4.cell; have fa_4 := za_4.frozen; have la_4 := za_4.lt
  have kb_4 := zb_4.cell; have fb_4 := zb_4.frozen; have lb_4 := zb_4.lt
  have kc_4 := zc_4.cell; have fc_4 := zc_4.frozen; have lc_4 := zc_4.lt
  clear rab
  go_wp2_with fail
  refine (bjoin_ok Aab Ac mab cab nc cc xab xc _ (by exact (rab_4.row.alloc _)) (by exact (rc_4.row.alloc _)) hcab hcc (by omega)).mono ?_
  rintro e w5 ⟨Aabc, mabc, cabc, xabc, rfl, hcabc, rabc, HXabc, b5⟩
  have Labc : xabc.length ≤ xab.length + xc.length ∧ xab.length + xc.length ≤ xabc.length := by rw [HXabc.out]; simp only [List.length_append, lowBits_len, List.length_nil, List.length_take, List.length_drop, unpack_len]; omega
  obtain ⟨Labc1, Labc2⟩ := Labc
  replace rabc := rabc.mono (lo' := w4.heap.size + 1) (by go_size) (Nat.le_refl _)
  have s5 := b5.size
  try simp only [World.size_alloc, World.size_setCell, World.size_drew, size_drewN] at s5
  obtain ⟨za_5, zb_5, zc_5, zab_5, ra_5, rb_5, rc_5, rab_5, rabc_5, bb_5⟩ : Blk w5 (w.heap.size) 24 [.slice Aa na ca, .int .i64 ((xa.length : Nat) : Int)] ∧ Blk w5 (w.heap.size + 1) 24 [.slice Ab nb cb, .int .i64 ((xb.length : Nat) : Int)] ∧ Blk w5 (w.heap.size + 1 + 1) 24 [.slice Ac nc cc, .int .i64 ((xc.length : Nat) : Int)] ∧ Blk w5 (w4.heap.size) 24 [.slice Aab mab cab, .int .i64 ((xab.length : Nat) : Int)] ∧ RowIn .u8 w5 (0) (w.heap.size) Aa na (pack xa) ∧ RowIn .u8 w5 (0) (w.heap.size) Ab nb (pack xb) ∧ RowIn .u8 w5 (0) (w.heap.size) Ac nc (pack xc) ∧ RowIn .u8 w5 (w3.heap.size + 0) (w4.heap.size) Aab mab (pack xab) ∧ RowIn .u8 w5 (w4.heap.size + 1) (w5.heap.size) Aabc mabc (pack xabc) ∧ Below w.heap.size w w5 := by
    refine ⟨?_, ?_, ?_, ?_, ?_, ?_, ?_, ?_, ?_, ?_⟩
    all_goals repeat' (first | (with_reducible assumption) | (with_reducible exact Below.refl _ _) | (with_reducible refine Blk.after ?_ b5) | (with_reducible refine RowIn.belowS ?_ b5) | (with_reducible refine Below.after ?_ b5 ?_) | (with_reducible refine Blk.drewN ?_ _) | (with_reducible refine RowIn.drewN ?_ _) | (with_reducible refine below_drewN ?_ _) | (with_reducible refine Blk.drew ?_) | (with_reducible refine RowIn.drew ?_) | (with_reducible refine Below.drew ?_) | (with_reducible refine Blk.new' ?_ ?_ <;> first | (with_reducible rfl) | (simp; done)) | (with_reducible refine Blk.alloc ?_ _) | (with_reducible refine RowIn.alloc ?_ _) | (with_reducible refine Below.alloc ?_ ?_ _) | (with_reducible refine Blk.set' ?_ ?_) | (with_reducible refine Blk.far' ?_ ?_ _) | (with_reducible refine RowIn.far' ?_ ?_ _) | (with_reducible refine Below.far' ?_ ?_ _) | rfl | omega | go_size)
  clear za_4 zb_4 zc_4 ra_4 rb_4 rc_4 rab_4 bb_4 ka_4 fa_4 la_4 kb_4 fb_4 lb_4 kc_4 fc_4 lc_4 b5
  have ka_5 := za_5.cell; have fa_5 := za_5.frozen; have la_5 := za_5.lt
  have kb_5 := zb_5.cell; have fb_5 := zb_5.frozen; have lb_5 := zb_5.lt
  have kc_5 := zc_5.cell; have fc_5 := zc_5.frozen; have lc_5 := zc_5.lt
  have kab_5 := zab_5.cell; have fab_5 := zab_5.frozen; have lab_5 := zab_5.lt
  clear rabc
  go_wp2_with fail
  refine (bjoin_ok Ab Ac nb cb nc cc xb xc _ (by exact (rb_5.row.alloc _)) (by exact (rc_5.row.alloc _)) hcb hcc (by omega)).mono ?_
  rintro e w6 ⟨Abc, mbc, cbc, xbc, rfl, hcbc, rbc, HXbc, b6⟩
  have Lbc : xbc.length ≤ xb.length + xc.length ∧ xb.length + xc.length ≤ xbc.length := by rw [HXbc.out]; simp only [List.length_append, lowBits_len, List.length_nil, List.length_take, List.length_drop, unpack_len]; omega
  obtain ⟨Lbc1, Lbc2⟩ := Lbc
  replace rbc := rbc.mono (lo' := w5.heap.size + 1) (by go_size) (Nat.le_refl _)
  have s6 := b6.size
  try simp only [World.size_alloc, World.size_setCell, World.size_drew, size_drewN] at s6
  obtain ⟨za_6, zb_6, zc_6, zab_6, zabc_6, ra_6, rb_6, rc_6, rab_6, rabc_6, rbc_6, bb_6⟩ : Blk w6 (w.heap.size) 24 [.slice Aa na ca, .int .i64 ((xa.length : Nat) : Int)] ∧ Blk w6 (w.heap.size + 1) 24 [.slice Ab nb cb, .int .i64 ((xb.length : Nat) : Int)] ∧ Blk w6 (w.heap.size + 1 + 1) 24 [.slice Ac nc cc, .int .i64 ((xc.length : Nat) : Int)] ∧ Blk w6 (w4.heap.size) 24 [.slice Aab mab cab, .int .i64 ((xab.length : Nat) : Int)] ∧ Blk w6 (w5.heap.size) 24 [.slice Aabc mabc cabc, .int .i64 ((xabc.length : Nat) : Int)] ∧ RowIn .u8 w6 (0) (w.heap.size) Aa na (pack xa) ∧ RowIn .u8 w6 (0) (w.heap.size) Ab nb (pack xb) ∧ RowIn .u8 w6 (0) (w.heap.size) Ac nc (pack xc) ∧ RowIn .u8 w6 (w3.heap.size + 0) (w4.heap.size) Aab mab (pack xab) ∧ RowIn .u8 w6 (w4.heap.size + 1) (w5.heap.size) Aabc mabc (pack xabc) ∧ RowIn .u8 w6 (w5.heap.size + 1) (w6.heap.size) Abc mbc (pack xbc) ∧ Below w.heap.size w w6 := by
    refine ⟨?_, ?_, ?_, ?_, ?_, ?_, ?_, ?_, ?_, ?_, ?_, ?_⟩
    all_goals repeat' (first | (with_reducible assumption) | (with_reducible exact Below.refl _ _) | (with_reducible refine Blk.after ?_ b6) | (with_reducible refine RowIn.belowS ?_ b6) | (with_reducible refine Below.after ?_ b6 ?_) | (with_reducible refine Blk.drewN ?_ _) | (with_reducible refine RowIn.drewN ?_ _) | (with_reducible refine below_drewN ?_ _) | (with_reducible refine Blk.drew ?_) | (with_reducible refine RowIn.drew ?_) | (with_reducible refine Below.drew ?_) | (with_reducible refine Blk.new' ?_ ?_ <;> first | (with_reducible rfl) | (simp; done)) | (with_reducible refine Blk.alloc ?_ _) | (with_reducible refine RowIn.alloc ?_ _) | (with_reducible refine Below.alloc ?_ ?_ _) | (with_reducible refine Blk.set' ?_ ?_) | (with_reducible refine Blk.far' ?_ ?_ _) | (with_reducible refine RowIn.far' ?_ ?_ _) | (with_reducible refine Below.far' ?_ ?_ _) | rfl | omega | go_size)
  clear za_5 zb_5 zc_5 zab_5 ra_5 rb_5 rc_5 rab_5 rabc_5 bb_5 ka_5 fa_5 la_5 kb_5 fb_5 lb_5 kc_5 fc_5 lc_5 kab_5 fab_5 lab_5 b6
  have ka_6 := za_6.cell; have fa_6 := za_6.frozen; have la_6 := za_6.lt
  have kb_6 := zb_6.cell; have fb_6 := zb_6.frozen; have lb_6 := zb_6.lt
  have kc_6 := zc_6.cell; have fc_6 := zc_6.frozen; have lc_6 := zc_6.lt
  have kab_6 := zab_6.cell; have fab_6 := zab_6.frozen; have lab_6 := zab_6.lt
  have kabc_6 := zabc_6.cell; have fabc_6 := zabc_6.frozen; have labc_6 := zabc_6.lt
  clear rbc
  go_wp2_with fail
  refine (bjoin_ok Aa Abc na ca mbc cbc xa xbc _ (by exact (ra_6.row.alloc _)) (by exact (rbc_6.row.alloc _)) hca hcbc (by omega)).mono ?_
  rintro e w7 ⟨Aot, mot, cot, xot, rfl, hcot, rot, HXot, b7⟩
  have Lot : xot.length ≤ xa.length + xbc.length ∧ xa.length + xbc.length ≤ xot.length := by rw [HXot.out]; simp only [List.length_append, lowBits_len, List.length_nil, List.length_take, List.length_drop, unpack_len]; omega
  obtain ⟨Lot1, Lot2⟩ := Lot
  replace rot := rot.mono (lo' := w6.heap.size + 1) (by go_size) (Nat.le_refl _)
  have s7 := b7.size
  try simp only [World.size_alloc, World.size_setCell, World.size_drew, size_drewN] at s7
  obtain ⟨za_7, zb_7, zc_7, zab_7, zabc_7, zbc_7, ra_7, rb_7, rc_7, rab_7, rabc_7, rbc_7, rot_7, bb_7⟩ : Blk w7 (w.heap.size) 24 [.slice Aa na ca, .int .i64 ((xa.length : Nat) : Int)] ∧ Blk w7 (w.heap.size + 1) 24 [.slice Ab nb cb, .int .i64 ((xb.length : Nat) : Int)] ∧ Blk w7 (w.heap.size + 1 + 1) 24 [.slice Ac nc cc, .int .i64 ((xc.length : Nat) : Int)] ∧ Blk w7 (w4.heap.size) 24 [.slice Aab mab cab, .int .i64 ((xab.length : Nat) : Int)] ∧ Blk w7 (w5.heap.size) 24 [.slice Aabc mabc cabc, .int .i64 ((xabc.length : Nat) : Int)] ∧ Blk w7 (w6.heap.size) 24 [.slice Abc mbc cbc, .int .i64 ((xbc.length : Nat) : Int)] ∧ RowIn .u8 w7 (0) (w.heap.size) Aa na (pack xa) ∧ RowIn .u8 w7 (0) (w.heap.size) Ab nb (pack xb) ∧ RowIn .u8 w7 (0) (w.heap.size) Ac nc (pack xc) ∧ RowIn .u8 w7 (w3.heap.size + 0) (w4.heap.size) Aab mab (pack xab) ∧ RowIn .u8 w7 (w4.heap.size + 1) (w5.heap.size) Aabc mabc (pack xabc) ∧ RowIn .u8 w7 (w5.heap.size + 1) (w6.heap.size) Abc mbc (pack xbc) ∧ RowIn .u8 w7 (w6.heap.size + 1) (w7.heap.size) Aot mot (pack xot) ∧ Below w.heap.size w w7 := by
    refine ⟨?_, ?_, ?_, ?_, ?_, ?_, ?_, ?_, ?_, ?_, ?_, ?_, ?_, ?_⟩
    all_goals repeat' (first | (with_reducible assumption) | (with_reducible exact Below.refl _ _) | (with_reducible refine Blk.after ?_ b7) | (with_reducible refine RowIn.belowS ?_ b7) | (with_reducible refine Below.after ?_ b7 ?_) | (with_reducible refine Blk.drewN ?_ _) | (with_reducible refine RowIn.drewN ?_ _) | (with_reducible refine below_drewN ?_ _) | (with_reducible refine Blk.drew ?_) | (with_reducible refine RowIn.drew ?_) | (with_reducible refine Below.drew ?_) | (with_reducible refine Blk.new' ?_ ?_ <;> first | (with_reducible rfl) | (simp; done)) | (with_reducible refine Blk.alloc ?_ _) | (with_reducible refine RowIn.alloc ?_ _) | (with_reducible refine Below.alloc ?_ ?_ _) | (with_reducible refine Blk.set' ?_ ?_) | (with_reducible refine Blk.far' ?_ ?_ _) | (with_reducible refine RowIn.far' ?_ ?_ _) | (with_reducible refine Below.far' ?_ ?_ _) | rfl | omega | go_size)
  clear za_6 zb_6 zc_6 zab_6 zabc_6 ra_6 rb_6 rc_6 rab_6 rabc_6 rbc_6 bb_6 ka_6 fa_6 la_6 kb_6 fb_6 lb_6 kc_6 fc_6 lc_6 kab_6 fab_6 lab_6 kabc_6 fabc_6 labc_6 b7
  have ka_7 := za_7.cell; have fa_7 := za_7.frozen; have la_7 := za_7.lt
  have kb_7 := zb_7.cell; have fb_7 := zb_7.frozen; have lb_7 := zb_7.lt
  have kc_7 := zc_7.cell; have fc_7 := zc_7.frozen; have lc_7 := zc_7.lt
  have kab_7 := zab_7.cell; have fab_7 := zab_7.frozen; have lab_7 := zab_7.lt
  have kabc_7 := zabc_7.cell; have fabc_7 := zabc_7.frozen; have labc_7 := zabc_7.lt
  have kbc_7 := zbc_7.cell; have fbc_7 := zbc_7.frozen; have lbc_7 := zbc_7.lt
  clear rot
  have HE : Hid (xabc = xot) := by rw [HXabc.out, HXab.out, HXot.out, HXbc.out]; exact Lib.hid (List.append_assoc ..)
  go_wp2_with fail
  refine (rsame_bits Aabc Aot mabc mot cabc cot xabc xot _ (by exact (rabc_7.row.alloc _)) (by exact (rot_7.row.alloc _)) HE.out).mono ?_
  rintro e w8 ⟨rfl, b8⟩
  have s8 := b8.size
  try simp only [World.size_alloc, World.size_setCell, World.size_drew, size_drewN] at s8
  obtain ⟨za_8, zb_8, zc_8, zab_8, zabc_8, zbc_8, zot_8, ra_8, rb_8, rc_8, rab_8, rabc_8, rbc_8, rot_8, bb_8⟩ : Blk w8 (w.heap.size) 24 [.slice Aa na ca, .int .i64 ((xa.length : Nat) : Int)] ∧ Blk w8 (w.heap.size + 1) 24 [.slice Ab nb cb, .int .i64 ((xb.length : Nat) : Int)] ∧ Blk w8 (w.heap.size + 1 + 1) 24 [.slice Ac nc cc, .int .i64 ((xc.length : Nat) : Int)] ∧ Blk w8 (w4.heap.size) 24 [.slice Aab mab cab, .int .i64 ((xab.length : Nat) : Int)] ∧ Blk w8 (w5.heap.size) 24 [.slice Aabc mabc cabc, .int .i64 ((xabc.length : Nat) : Int)] ∧ Blk w8 (w6.heap.size) 24 [.slice Abc mbc cbc, .int .i64 ((xbc.length : Nat) : Int)] ∧ Blk w8 (w7.heap.size) 24 [.slice Aot mot cot, .int .i64 ((xot.length : Nat) : Int)] ∧ RowIn .u8 w8 (0) (w.heap.size) Aa na (pack xa) ∧ RowIn .u8 w8 (0) (w.heap.size) Ab nb (pack xb) ∧ RowIn .u8 w8 (0) (w.heap.size) Ac nc (pack xc) ∧ RowIn .u8 w8 (w3.heap.size + 0) (w4.heap.size) Aab mab (pack xab) ∧ RowIn .u8 w8 (w4.heap.size + 1) (w5.heap.size) Aabc mabc (pack xabc) ∧ RowIn .u8 w8 (w5.heap.size + 1) (w6.heap.size) Abc mbc (pack xbc) ∧ RowIn .u8 w8 (w6.heap.size + 1) (w7.heap.size) Aot mot (pack xot) ∧ Below w.heap.size w w8 := by
    refine ⟨?_, ?_, ?_, ?_, ?_, ?_, ?_, ?_, ?_, ?_, ?_, ?_, ?_, ?_, ?_⟩
    all_goals repeat' (first | (with_reducible assumption) | (with_reducible exact Below.refl _ _) | (with_reducible refine Blk.after ?_ b8) | (with_reducible refine RowIn.belowS ?_ b8) | (with_reducible refine Below.after ?_ b8 ?_) | (with_reducible refine Blk.drewN ?_ _) | (with_reducible refine RowIn.drewN ?_ _) | (with_reducible refine below_drewN ?_ _) | (with_reducible refine Blk.drew ?_) | (with_reducible refine RowIn.drew ?_) | (with_reducible refine Below.drew ?_) | (with_reducible refine Blk.new' ?_ ?_ <;> first | (with_reducible rfl) | (simp; done)) | (with_reducible refine Blk.alloc ?_ _) | (with_reducible refine RowIn.alloc ?_ _) | (with_reducible refine Below.alloc ?_ ?_ _) | (with_reducible refine Blk.set' ?_ ?_) | (with_reducible refine Blk.far' ?_ ?_ _) | (with_reducible refine RowIn.far' ?_ ?_ _) | (with_reducible refine Below.far' ?_ ?_ _) | rfl | omega | go_size)
  clear za_7 zb_7 zc_7 zab_7 zabc_7 zbc_7 ra_7 rb_7 rc_7 rab_7 rabc_7 rbc_7 rot_7 bb_7 ka_7 fa_7 la_7 kb_7 fb_7 lb_7 kc_7 fc_7 lc_7 kab_7 fab_7 lab_7 kabc_7 fabc_7 labc_7 kbc_7 fbc_7 lbc_7 b8
  have ka_8 := za_8.cell; have fa_8 := za_8.frozen; have la_8 := za_8.lt
  have kb_8 := zb_8.cell; have fb_8 := zb_8.frozen; have lb_8 := zb_8.lt
  have kc_8 := zc_8.cell; have fc_8 := zc_8.frozen; have lc_8 := zc_8.lt
  have kab_8 := zab_8.cell; have fab_8 := zab_8.frozen; have lab_8 := zab_8.lt
  have kabc_8 := zabc_8.cell; have fabc_8 := zabc_8.frozen; have labc_8 := zabc_8.lt
  have kbc_8 := zbc_8.cell; have fbc_8 := zbc_8.frozen; have lbc_8 := zbc_8.lt
  have kot_8 := zot_8.cell; have fot_8 := zot_8.frozen; have lot_8 := zot_8.lt
  have t1 : (((xab.length : Nat) : Int) != ((xa.length : Nat) : Int) + ((xb.length : Nat) : Int)) = false := by rw [bne_eq_false_iff_eq]; omega
  by_cases h4 : p < 0
  · go_wp2_with fail
    refine (alive02 _).mono ?_
    rintro e w9 ⟨rfl, b9⟩
    have s9 := b9.size
    try simp only [World.size_alloc, World.size_setCell, World.size_drew, size_drewN] at s9
    obtain ⟨za_9, zb_9, zc_9, zab_9, zabc_9, zbc_9, zot_9, ra_9, rb_9, rc_9, rab_9, rabc_9, rbc_9, rot_9, bb_9⟩ : Blk w9 (w.heap.size) 24 [.slice Aa na ca, .int .i64 ((xa.length : Nat) : Int)] ∧ Blk w9 (w.heap.size + 1) 24 [.slice Ab nb cb, .int .i64 ((xb.length : Nat) : Int)] ∧ Blk w9 (w.heap.size + 1 + 1) 24 [.slice Ac nc cc, .int .i64 ((xc.length : Nat) : Int)] ∧ Blk w9 (w4.heap.size) 24 [.slice Aab mab cab, .int .i64 ((xab.length : Nat) : Int)] ∧ Blk w9 (w5.heap.size) 24 [.slice Aabc mabc cabc, .int .i64 ((xabc.length : Nat) : Int)] ∧ Blk w9 (w6.heap.size) 24 [.slice Abc mbc cbc, .int .i64 ((xbc.length : Nat) : Int)] ∧ Blk w9 (w7.heap.size) 24 [.slice Aot mot cot, .int .i64 ((xot.length : Nat) : Int)] ∧ RowIn .u8 w9 (0) (w.heap.size) Aa na (pack xa) ∧ RowIn .u8 w9 (0) (w.heap.size) Ab nb (pack xb) ∧ RowIn .u8 w9 (0) (w.heap.size) Ac nc (pack xc) ∧ RowIn .u8 w9 (w3.heap.size + 0) (w4.heap.size) Aab mab (pack xab) ∧ RowIn .u8 w9 (w4.heap.size + 1) (w5.heap.size) Aabc mabc (pack xabc) ∧ RowIn .u8 w9 (w5.heap.size + 1) (w6.heap.size) Abc mbc (pack xbc) ∧ RowIn .u8 w9 (w6.heap.size + 1) (w7.heap.size) Aot mot (pack xot) ∧ Below w.heap.size w w9 := by
      refine ⟨?_, ?_, ?_, ?_, ?_, ?_, ?_, ?_, ?_, ?_, ?_, ?_, ?_, ?_, ?_⟩
      all_goals repeat' (first | (with_reducible assumption) | (with_reducible exact Below.refl _ _) | (with_reducible refine Blk.after ?_ b9) | (with_reducible refine RowIn.belowS ?_ b9) | (with_reducible refine Below.after ?_ b9 ?_) | (with_reducible refine Blk.drewN ?_ _) | (with_reducible refine RowIn.drewN ?_ _) | (with_reducible refine below_drewN ?_ _) | (with_reducible refine Blk.drew ?_) | (with_reducible refine RowIn.drew ?_) | (with_reducible refine Below.drew ?_) | (with_reducible refine Blk.new' ?_ ?_ <;> first | (with_reducible rfl) | (simp; done)) | (with_reducible refine Blk.alloc ?_ _) | (with_reducible refine RowIn.alloc ?_ _) | (with_reducible refine Below.alloc ?_ ?_ _) | (with_reducible refine Blk.set' ?_ ?_) | (with_reducible refine Blk.far' ?_ ?_ _) | (with_reducible refine RowIn.far' ?_ ?_ _) | (with_reducible refine Below.far' ?_ ?_ _) | rfl | omega | go_size)
    clear za_8 zb_8 zc_8 zab_8 zabc_8 zbc_8 zot_8 ra_8 rb_8 rc_8 rab_8 rabc_8 rbc_8 rot_8 bb_8 ka_8 fa_8 la_8 kb_8 fb_8 lb_8 kc_8 fc_8 lc_8 kab_8 fab_8 lab_8 kabc_8 fabc_8 labc_8 kbc_8 fbc_8 lbc_8 kot_8 fot_8 lot_8 b9
    have ka_9 := za_9.cell; have fa_9 := za_9.frozen; have la_9 := za_9.lt
    have kb_9 := zb_9.cell; have fb_9 := zb_9.frozen; have lb_9 := zb_9.lt
    have kc_9 := zc_9.cell; have fc_9 := zc_9.frozen; have lc_9 := zc_9.lt
    have kab_9 := zab_9.cell; have fab_9 := zab_9.frozen; have lab_9 := zab_9.lt
    have kabc_9 := zabc_9.cell; have fabc_9 := zabc_9.frozen; have labc_9 := zabc_9.lt
    have kbc_9 := zbc_9.cell; have fbc_9 := zbc_9.frozen; have lbc_9 := zbc_9.lt
    have kot_9 := zot_9.cell; have fot_9 := zot_9.frozen; have lot_9 := zot_9.lt
    go_wp2
    go_ret
    refine ⟨rfl, ?_⟩
    repeat' (first | (with_reducible assumption) | (with_reducible exact Below.refl _ _) | (with_reducible refine Blk.drewN ?_ _) | (with_reducible refine RowIn.drewN ?_ _) | (with_reducible refine below_drewN ?_ _) | (with_reducible refine Blk.drew ?_) | (with_reducible refine RowIn.drew ?_) | (with_reducible refine Below.drew ?_) | (with_reducible refine Blk.new' ?_ ?_ <;> first | (with_reducible rfl) | (simp; done)) | (with_reducible refine Blk.alloc ?_ _) | (with_reducible refine RowIn.alloc ?_ _) | (with_reducible refine Below.alloc ?_ ?_ _) | (with_reducible refine Blk.set' ?_ ?_) | (with_reducible refine Blk.far' ?_ ?_ _) | (with_reducible refine RowIn.far' ?_ ?_ _) | (with_reducible refine Below.far' ?_ ?_ _) | rfl | omega | go_size)
  by_cases h5 : (xa.length : Int) < p
  · go_wp2_with fail
    refine (alive02 _).mono ?_
    rintro e w9 ⟨rfl, b9⟩
    have s9 := b9.size
    try simp only [World.size_alloc, World.size_setCell, World.size_drew, size_drewN] at s9
    obtain ⟨za_9, zb_9, zc_9, zab_9, zabc_9, zbc_9, zot_9, ra_9, rb_9, rc_9, rab_9, rabc_9, rbc_9, rot_9, bb_9⟩ : Blk w9 (w.heap.size) 24 [.slice Aa na ca, .int .i64 ((xa.length : Nat) : Int)] ∧ Blk w9 (w.heap.size + 1) 24 [.slice Ab nb cb, .int .i64 ((xb.length : Nat) : Int)] ∧ Blk w9 (w.heap.size + 1 + 1) 24 [.slice Ac nc cc, .int .i64 ((xc.length : Nat) : Int)] ∧ Blk w9 (w4.heap.size) 24 [.slice Aab mab cab, .int .i64 ((xab.length : Nat) : Int)] ∧ Blk w9 (w5.heap.size) 24 [.slice Aabc mabc cabc, .int .i64 ((xabc.length : Nat) : Int)] ∧ Blk w9 (w6.heap.size) 24 [.slice Abc mbc cbc, .int .i64 ((xbc.length : Nat) : Int)] ∧ Blk w9 (w7.heap.size) 24 [.slice Aot mot cot, .int .i64 ((xot.length : Nat) : Int)] ∧ RowIn .u8 w9 (0) (w.heap.size) Aa na (pack xa) ∧ RowIn .u8 w9 (0) (w.heap.size) Ab nb (pack xb) ∧ RowIn .u8 w9 (0) (w.heap.size) Ac nc (pack xc) ∧ RowIn .u8 w9 (w3.heap.size + 0) (w4.heap.size) Aab mab (pack xab) ∧ RowIn .u8 w9 (w4.heap.size + 1) (w5.heap.size) Aabc mabc (pack xabc) ∧ RowIn .u8 w9 (w5.heap.size + 1) (w6.heap.size) Abc mbc (pack xbc) ∧ RowIn .u8 w9 (w6.heap.size + 1) (w7.heap.size) Aot mot (pack xot) ∧ Below w.heap.size w w9 := by
      refine ⟨?_, ?_, ?_, ?_, ?_, ?_, ?_, ?_, ?_, ?_, ?_, ?_, ?_, ?_, ?_⟩
      all_goals repeat' (first | (with_reducible assumption) | (with_reducible exact Below.refl _ _) | (with_reducible refine Blk.after ?_ b9) | (with_reducible refine RowIn.belowS ?_ b9) | (with_reducible refine Below.after ?_ b9 ?_) | (with_reducible refine Blk.drewN ?_ _) | (with_reducible refine RowIn.drewN ?_ _) | (with_reducible refine below_drewN ?_ _) | (with_reducible refine Blk.drew ?_) | (with_reducible refine RowIn.drew ?_) | (with_reducible refine Below.drew ?_) | (with_reducible refine Blk.new' ?_ ?_ <;> first | (with_reducible rfl) | (simp; done)) | (with_reducible refine Blk.alloc ?_ _) | (with_reducible refine RowIn.alloc ?_ _) | (with_reducible refine Below.alloc ?_ ?_ _) | (with_reducible refine Blk.set' ?_ ?_) | (with_reducible refine Blk.far' ?_ ?_ _) | (with_reducible refine RowIn.far' ?_ ?_ _) | (with_reducible refine Below.far' ?_ ?_ _) | rfl | omega | go_size)
    clear za_8 zb_8 zc_8 zab_8 zabc_8 zbc_8 zot_8 ra_8 rb_8 rc_8 rab_8 rabc_8 rbc_8 rot_8 bb_8 ka_8 fa_8 la_8 kb_8 fb_8 lb_8 kc_8 fc_8 lc_8 kab_8 fab_8 lab_8 kabc_8 fabc_8 labc_8 kbc_8 fbc_8 lbc_8 kot_8 fot_8 lot_8 b9
    have ka_9 := za_9.cell; have fa_9 := za_9.frozen; have la_9 := za_9.lt
    have kb_9 := zb_9.cell; have fb_9 := zb_9.frozen; have lb_9 := zb_9.lt
    have kc_9 := zc_9.cell; have fc_9 := zc_9.frozen; have lc_9 := zc_9.lt
    have kab_9 := zab_9.cell; have fab_9 := zab_9.frozen; have lab_9 := zab_9.lt
    have kabc_9 := zabc_9.cell; have fabc_9 := zabc_9.frozen; have labc_9 := zabc_9.lt
    have kbc_9 := zbc_9.cell; have fbc_9 := zbc_9.frozen; have lbc_9 := zbc_9.lt
    have kot_9 := zot_9.cell; have fot_9 := zot_9.frozen; have lot_9 := zot_9.lt
    go_wp2
    go_ret
    refine ⟨rfl, ?_⟩
    repeat' (first | (with_reducible assumption) | (with_reducible exact Below.refl _ _) | (with_reducible refine Blk.drewN ?_ _) | (with_reducible refine RowIn.drewN ?_ _) | (with_reducible refine below_drewN ?_ _) | (with_reducible refine Blk.drew ?_) | (with_reducible refine RowIn.drew ?_) | (with_reducible refine Below.drew ?_) | (with_reducible refine Blk.new' ?_ ?_ <;> first | (with_reducible rfl) | (simp; done)) | (with_reducible refine Blk.alloc ?_ _) | (with_reducible refine RowIn.alloc ?_ _) | (with_reducible refine Below.alloc ?_ ?_ _) | (with_reducible refine Blk.set' ?_ ?_) | (with_reducible refine Blk.far' ?_ ?_ _) | (with_reducible refine RowIn.far' ?_ ?_ _) | (with_reducible refine Below.far' ?_ ?_ _) | rfl | omega | go_size)
  go_wp2_with fail
  refine (bcut_ok Aa na ca xa _ _ _ ra_8.row hca hla (by omega) (by omega) (by omega)).mono ?_
  rintro e w9 ⟨Af, mf, cf, xf, rfl, hcf, rf, HXf, b9⟩
  have Lf : xf.length ≤ p.toNat ∧ p.toNat ≤ xf.length := by rw [HXf.out]; rw [List.length_take, List.length_drop]; omega
  obtain ⟨Lf1, Lf2⟩ := Lf
  replace rf := rf.mono (lo' := w8.heap.size + 0) (by go_size) (Nat.le_refl _)
  have s9 := b9.size
  try simp only [World.size_alloc, World.size_setCell, World.size_drew, size_drewN] at s9
  obtain ⟨za_9, zb_9, zc_9, zab_9, zabc_9, zbc_9, zot_9, ra_9, rf_9, bb_9⟩ : Blk w9 (w.heap.size) 24 [.slice Aa na ca, .int .i64 ((xa.length : Nat) : Int)] ∧ Blk w9 (w.heap.size + 1) 24 [.slice Ab nb cb, .int .i64 ((xb.length : Nat) : Int)] ∧ Blk w9 (w.heap.size + 1 + 1) 24 [.slice Ac nc cc, .int .i64 ((xc.length : Nat) : Int)] ∧ Blk w9 (w4.heap.size) 24 [.slice Aab mab cab, .int .i64 ((xab.length : Nat) : Int)] ∧ Blk w9 (w5.heap.size) 24 [.slice Aabc mabc cabc, .int .i64 ((xabc.length : Nat) : Int)] ∧ Blk w9 (w6.heap.size) 24 [.slice Abc mbc cbc, .int .i64 ((xbc.length : Nat) : Int)] ∧ Blk w9 (w7.heap.size) 24 [.slice Aot mot cot, .int .i64 ((xot.length : Nat) : Int)] ∧ RowIn .u8 w9 (0) (w.heap.size) Aa na (pack xa) ∧ RowIn .u8 w9 (w8.heap.size + 0) (w9.heap.size) Af mf (pack xf) ∧ Below w.heap.size w w9 := by
    refine ⟨?_, ?_, ?_, ?_, ?_, ?_, ?_, ?_, ?_, ?_⟩
    all_goals repeat' (first | (with_reducible assumption) | (with_reducible exact Below.refl _ _) | (with_reducible refine Blk.after ?_ b9) | (with_reducible refine RowIn.belowS ?_ b9) | (with_reducible refine Below.after ?_ b9 ?_) | (with_reducible refine Blk.drewN ?_ _) | (with_reducible refine RowIn.drewN ?_ _) | (with_reducible refine below_drewN ?_ _) | (with_reducible refine Blk.drew ?_) | (with_reducible refine RowIn.drew ?_) | (with_reducible refine Below.drew ?_) | (with_reducible refine Blk.new' ?_ ?_ <;> first | (with_reducible rfl) | (simp; done)) | (with_reducible refine Blk.alloc ?_ _) | (with_reducible refine RowIn.alloc ?_ _) | (with_reducible refine Below.alloc ?_ ?_ _) | (with_reducible refine Blk.set' ?_ ?_) | (with_reducible refine Blk.far' ?_ ?_ _) | (with_reducible refine RowIn.far' ?_ ?_ _) | (with_reducible refine Below.far' ?_ ?_ _) | rfl | omega | go_size)
  clear za_8 zb_8 zc_8 zab_8 zabc_8 zbc_8 zot_8 ra_8 rb_8 rc_8 rab_8 rabc_8 rbc_8 rot_8 bb_8 ka_8 fa_8 la_8 kb_8 fb_8 lb_8 kc_8 fc_8 lc_8 kab_8 fab_8 lab_8 kabc_8 fabc_8 labc_8 kbc_8 fbc_8 lbc_8 kot_8 fot_8 lot_8 b9
  have ka_9 := za_9.cell; have fa_9 := za_9.frozen; have la_9 := za_9.lt
  have kb_9 := zb_9.cell; have fb_9 := zb_9.frozen; have lb_9 := zb_9.lt
  have kc_9 := zc_9.cell; have fc_9 := zc_9.frozen; have lc_9 := zc_9.lt
  have kab_9 := zab_9.cell; have fab_9 := zab_9.frozen; have lab_9 := zab_9.lt
  have kabc_9 := zabc_9.cell; have fabc_9 := zabc_9.frozen; have labc_9 := zabc_9.lt
  have kbc_9 := zbc_9.cell; have fbc_9 := zbc_9.frozen; have lbc_9 := zbc_9.lt
  have kot_9 := zot_9.cell; have fot_9 := zot_9.frozen; have lot_9 := zot_9.lt
  clear rf
  go_wp2_with fail
  refine (bcut_ok Aa na ca xa _ _ _ (by exact (ra_9.row.alloc _)) hca hla (by omega) (by omega) (by omega)).mono ?_
  rintro e w10 ⟨Ag, mg, cg, xg, rfl, hcg, rg, HXg, b10⟩
  have Lg : xg.length ≤ xa.length - p.toNat ∧ xa.length - p.toNat ≤ xg.length := by rw [HXg.out]; rw [List.length_take, List.length_drop]; omega
  obtain ⟨Lg1, Lg2⟩ := Lg
  replace rg := rg.mono (lo' := w9.heap.size + 1) (by go_size) (Nat.le_refl _)
  have s10 := b10.size
  try simp only [World.size_alloc, World.size_setCell, World.size_drew, size_drewN] at s10
  obtain ⟨za_10, zb_10, zc_10, zab_10, zabc_10, zbc_10, zot_10, zf_10, ra_10, rf_10, rg_10, bb_10⟩ : Blk w10 (w.heap.size) 24 [.slice Aa na ca, .int .i64 ((xa.length : Nat) : Int)] ∧ Blk w10 (w.heap.size + 1) 24 [.slice Ab nb cb, .int .i64 ((xb.length : Nat) : Int)] ∧ Blk w10 (w.heap.size + 1 + 1) 24 [.slice Ac nc cc, .int .i64 ((xc.length : Nat) : Int)] ∧ Blk w10 (w4.heap.size) 24 [.slice Aab mab cab, .int .i64 ((xab.length : Nat) : Int)] ∧ Blk w10 (w5.heap.size) 24 [.slice Aabc mabc cabc, .int .i64 ((xabc.length : Nat) : Int)] ∧ Blk w10 (w6.heap.size) 24 [.slice Abc mbc cbc, .int .i64 ((xbc.length : Nat) : Int)] ∧ Blk w10 (w7.heap.size) 24 [.slice Aot mot cot, .int .i64 ((xot.length : Nat) : Int)] ∧ Blk w10 (w9.heap.size) 24 [.slice Af mf cf, .int .i64 ((xf.length : Nat) : Int)] ∧ RowIn .u8 w10 (0) (w.heap.size) Aa na (pack xa) ∧ RowIn .u8 w10 (w8.heap.size + 0) (w9.heap.size) Af mf (pack xf) ∧ RowIn .u8 w10 (w9.heap.size + 1) (w10.heap.size) Ag mg (pack xg) ∧ Below w.heap.size w w10 := by
    refine ⟨?_, ?_, ?_, ?_, ?_, ?_, ?_, ?_, ?_, ?_, ?_, ?_⟩
    all_goals repeat' (first | (with_reducible assumption) | (with_reducible exact Below.refl _ _) | (with_reducible refine Blk.after ?_ b10) | (with_reducible refine RowIn.belowS ?_ b10) | (with_reducible refine Below.after ?_ b10 ?_) | (with_reducible refine Blk.drewN ?_ _) | (with_reducible refine RowIn.drewN ?_ _) | (with_reducible refine below_drewN ?_ _) | (with_reducible refine Blk.drew ?_) | (with_reducible refine RowIn.drew ?_) | (with_reducible refine Below.drew ?_) | (with_reducible refine Blk.new' ?_ ?_ <;> first | (with_reducible rfl) | (simp; done)) | (with_reducible refine Blk.alloc ?_ _) | (with_reducible refine RowIn.alloc ?_ _) | (with_reducible refine Below.alloc ?_ ?_ _) | (with_reducible refine Blk.set' ?_ ?_) | (with_reducible refine Blk.far' ?_ ?_ _) | (with_reducible refine RowIn.far' ?_ ?_ _) | (with_reducible refine Below.far' ?_ ?_ _) | rfl | omega | go_size)
  clear za_9 zb_9 zc_9 zab_9 zabc_9 zbc_9 zot_9 ra_9 rf_9 bb_9 ka_9 fa_9 la_9 kb_9 fb_9 lb_9 kc_9 fc_9 lc_9 kab_9 fab_9 lab_9 kabc_9 fabc_9 labc_9 kbc_9 fbc_9 lbc_9 kot_9 fot_9 lot_9 b10
  have ka_10 := za_10.cell; have fa_10 := za_10.frozen; have la_10 := za_10.lt
  have kb_10 := zb_10.cell; have fb_10 := zb_10.frozen; have lb_10 := zb_10.lt
  have kc_10 := zc_10.cell; have fc_10 := zc_10.frozen; have lc_10 := zc_10.lt
  have kab_10 := zab_10.cell; have fab_10 := zab_10.frozen; have lab_10 := zab_10.lt
  have kabc_10 := zabc_10.cell; have fabc_10 := zabc_10.frozen; have labc_10 := zabc_10.lt
  have kbc_10 := zbc_10.cell; have fbc_10 := zbc_10.frozen; have lbc_10 := zbc_10.lt
  have kot_10 := zot_10.cell; have fot_10 := zot_10.frozen; have lot_10 := zot_10.lt
  have kf_10 := zf_10.cell; have ff_10 := zf_10.frozen; have lf_10 := zf_10.lt
  clear rg
  go_wp2_with fail
  refine (bjoin_ok Af Ag mf cf mg cg xf xg _ (by exact (rf_10.row.alloc _)) (by exact (rg_10.row.alloc _)) hcf hcg (by omega)).mono ?_
  rintro e w11 ⟨Awh, mwh, cwh, xwh, rfl, hcwh, rwh, HXwh, b11⟩
  have Lwh : xwh.length ≤ xf.length + xg.length ∧ xf.length + xg.length ≤ xwh.length := by rw [HXwh.out]; simp only [List.length_append, lowBits_len, List.length_nil, List.length_take, List.length_drop, unpack_len]; omega
  obtain ⟨Lwh1, Lwh2⟩ := Lwh
  replace rwh := rwh.mono (lo' := w10.heap.size + 1) (by go_size) (Nat.le_refl _)
  have s11 := b11.size
  try simp only [World.size_alloc, World.size_setCell, World.size_drew, size_drewN] at s11
  obtain ⟨za_11, zb_11, zc_11, zab_11, zabc_11, zbc_11, zot_11, zf_11, zg_11, ra_11, rf_11, rg_11, rwh_11, bb_11⟩ : Blk w11 (w.heap.size) 24 [.slice Aa na ca, .int .i64 ((xa.length : Nat) : Int)] ∧ Blk w11 (w.heap.size + 1) 24 [.slice Ab nb cb, .int .i64 ((xb.length : Nat) : Int)] ∧ Blk w11 (w.heap.size + 1 + 1) 24 [.slice Ac nc cc, .int .i64 ((xc.length : Nat) : Int)] ∧ Blk w11 (w4.heap.size) 24 [.slice Aab mab cab, .int .i64 ((xab.length : Nat) : Int)] ∧ Blk w11 (w5.heap.size) 24 [.slice Aabc mabc cabc, .int .i64 ((xabc.length : Nat) : Int)] ∧ Blk w11 (w6.heap.size) 24 [.slice Abc mbc cbc, .int .i64 ((xbc.length : Nat) : Int)] ∧ Blk w11 (w7.heap.size) 24 [.slice Aot mot cot, .int .i64 ((xot.length : Nat) : Int)] ∧ Blk w11 (w9.heap.size) 24 [.slice Af mf cf, .int .i64 ((xf.length : Nat) : Int)] ∧ Blk w11 (w10.heap.size) 24 [.slice Ag mg cg, .int .i64 ((xg.length : Nat) : Int)] ∧ RowIn .u8 w11 (0) (w.heap.size) Aa na (pack xa) ∧ RowIn .u8 w11 (w8.heap.size + 0) (w9.heap.size) Af mf (pack xf) ∧ RowIn .u8 w11 (w9.heap.size + 1) (w10.heap.size) Ag mg (pack xg) ∧ RowIn .u8 w11 (w10.heap.size + 1) (w11.heap.size) Awh mwh (pack xwh) ∧ Below w.heap.size w w11 := by
    refine ⟨?_, ?_, ?_, ?_, ?_, ?_, ?_, ?_, ?_, ?_, ?_, ?_, ?_, ?_⟩
    all_goals repeat' (first | (with_reducible assumption) | (with_reducible exact Below.refl _ _) | (with_reducible refine Blk.after ?_ b11) | (with_reducible refine RowIn.belowS ?_ b11) | (with_reducible refine Below.after ?_ b11 ?_) | (with_reducible refine Blk.drewN ?_ _) | (with_reducible refine RowIn.drewN ?_ _) | (with_reducible refine below_drewN ?_ _) | (with_reducible refine Blk.drew ?_) | (with_reducible refine RowIn.drew ?_) | (with_reducible refine Below.drew ?_) | (with_reducible refine Blk.new' ?_ ?_ <;> first | (with_reducible rfl) | (simp; done)) | (with_reducible refine Blk.alloc ?_ _) | (with_reducible refine RowIn.alloc ?_ _) | (with_reducible refine Below.alloc ?_ ?_ _) | (with_reducible refine Blk.set' ?_ ?_) | (with_reducible refine Blk.far' ?_ ?_ _) | (with_reducible refine RowIn.far' ?_ ?_ _) | (with_reducible refine Below.far' ?_ ?_ _) | rfl | omega | go_size)
  clear za_10 zb_10 zc_10 zab_10 zabc_10 zbc_10 zot_10 zf_10 ra_10 rf_10 rg_10 bb_10 ka_10 fa_10 la_10 kb_10 fb_10 lb_10 kc_10 fc_10 lc_10 kab_10 fab_10 lab_10 kabc_10 fabc_10 labc_10 kbc_10 fbc_10 lbc_10 kot_10 fot_10 lot_10 kf_10 ff_10 lf_10 b11
  have ka_11 := za_11.cell; have fa_11 := za_11.frozen; have la_11 := za_11.lt
  have kb_11 := zb_11.cell; have fb_11 := zb_11.frozen; have lb_11 := zb_11.lt
  have kc_11 := zc_11.cell; have fc_11 := zc_11.frozen; have lc_11 := zc_11.lt
  have kab_11 := zab_11.cell; have fab_11 := zab_11.frozen; have lab_11 := zab_11.lt
  have kabc_11 := zabc_11.cell; have fabc_11 := zabc_11.frozen; have labc_11 := zabc_11.lt
  have kbc_11 := zbc_11.cell; have fbc_11 := zbc_11.frozen; have lbc_11 := zbc_11.lt
  have kot_11 := zot_11.cell; have fot_11 := zot_11.frozen; have lot_11 := zot_11.lt
  have kf_11 := zf_11.cell; have ff_11 := zf_11.frozen; have lf_11 := zf_11.lt
  have kg_11 := zg_11.cell; have fg_11 := zg_11.frozen; have lg_11 := zg_11.lt
  clear rwh
  have HE2 : Hid (xwh = xa) := by
    rw [HXwh.out, HXf.out, HXg.out]
    refine Lib.hid ?_
    rw [show ((0 : Int).toNat) = 0 from rfl, List.drop_zero, Nat.sub_zero, Int.toNat_natCast, List.take_of_length_le (l := xa.drop p.toNat) (by rw [List.length_drop]; omega), List.take_append_drop]
  have t2 : (((xf.length : Nat) : Int) == p) = true := by rw [beq_iff_eq]; omega
  go_wp2_with fail
  refine (rsame_bits Awh Aa mwh na cwh ca xwh xa _ (by exact (rwh_11.row.alloc _)) (by exact (ra_11.row.alloc _)) HE2.out).mono ?_
  rintro e w12 ⟨rfl, b12⟩
  have s12 := b12.size
  try simp only [World.size_alloc, World.size_setCell, World.size_drew, size_drewN] at s12
  obtain ⟨za_12, zb_12, zc_12, zab_12, zabc_12, zbc_12, zot_12, zf_12, zg_12, zwh_12, ra_12, rf_12, rg_12, rwh_12, bb_12⟩ : Blk w12 (w.heap.size) 24 [.slice Aa na ca, .int .i64 ((xa.length : Nat) : Int)] ∧ Blk w12 (w.heap.size + 1) 24 [.slice Ab nb cb, .int .i64 ((xb.length : Nat) : Int)] ∧ Blk w12 (w.heap.size + 1 + 1) 24 [.slice Ac nc cc, .int .i64 ((xc.length : Nat) : Int)] ∧ Blk w12 (w4.heap.size) 24 [.slice Aab mab cab, .int .i64 ((xab.length : Nat) : Int)] ∧ Blk w12 (w5.heap.size) 24 [.slice Aabc mabc cabc, .int .i64 ((xabc.length : Nat) : Int)] ∧ Blk w12 (w6.heap.size) 24 [.slice Abc mbc cbc, .int .i64 ((xbc.length : Nat) : Int)] ∧ Blk w12 (w7.heap.size) 24 [.slice Aot mot cot, .int .i64 ((xot.length : Nat) : Int)] ∧ Blk w12 (w9.heap.size) 24 [.slice Af mf cf, .int .i64 ((xf.length : Nat) : Int)] ∧ Blk w12 (w10.heap.size) 24 [.slice Ag mg cg, .int .i64 ((xg.length : Nat) : Int)] ∧ Blk w12 (w11.heap.size) 24 [.slice Awh mwh cwh, .int .i64 ((xwh.length : Nat) : Int)] ∧ RowIn .u8 w12 (0) (w.heap.size) Aa na (pack xa) ∧ RowIn .u8 w12 (w8.heap.size + 0) (w9.heap.size) Af mf (pack xf) ∧ RowIn .u8 w12 (w9.heap.size + 1) (w10.heap.size) Ag mg (pack xg) ∧ RowIn .u8 w12 (w10.heap.size + 1) (w11.heap.size) Awh mwh (pack xwh) ∧ Below w.heap.size w w12 := by
    refine ⟨?_, ?_, ?_, ?_, ?_, ?_, ?_, ?_, ?_, ?_, ?_, ?_, ?_, ?_, ?_⟩
    all_goals repeat' (first | (with_reducible assumption) | (with_reducible exact Below.refl _ _) | (with_reducible refine Blk.after ?_ b12) | (with_reducible refine RowIn.belowS ?_ b12) | (with_reducible refine Below.after ?_ b12 ?_) | (with_reducible refine Blk.drewN ?_ _) | (with_reducible refine RowIn.drewN ?_ _) | (with_reducible refine below_drewN ?_ _) | (with_reducible refine Blk.drew ?_) | (with_reducible refine RowIn.drew ?_) | (with_reducible refine Below.drew ?_) | (with_reducible refine Blk.new' ?_ ?_ <;> first | (with_reducible rfl) | (simp; done)) | (with_reducible refine Blk.alloc ?_ _) | (with_reducible refine RowIn.alloc ?_ _) | (with_reducible refine Below.alloc ?_ ?_ _) | (with_reducible refine Blk.set' ?_ ?_) | (with_reducible refine Blk.far' ?_ ?_ _) | (with_reducible refine RowIn.far' ?_ ?_ _) | (with_reducible refine Below.far' ?_ ?_ _) | rfl | omega | go_size)
  clear za_11 zb_11 zc_11 zab_11 zabc_11 zbc_11 zot_11 zf_11 zg_11 ra_11 rf_11 rg_11 rwh_11 bb_11 ka_11 fa_11 la_11 kb_11 fb_11 lb_11 kc_11 fc_11 lc_11 kab_11 fab_11 lab_11 kabc_11 fabc_11 labc_11 kbc_11 fbc_11 lbc_11 kot_11 fot_11 lot_11 kf_11 ff_11 lf_11 kg_11 fg_11 lg_11 b12
  have ka_12 := za_12.cell; have fa_12 := za_12.frozen; have la_12 := za_12.lt
  have kb_12 := zb_12.cell; have fb_12 := zb_12.frozen; have lb_12 := zb_12.lt
  have kc_12 := zc_12.cell; have fc_12 := zc_12.frozen; have lc_12 := zc_12.lt
  have kab_12 := zab_12.cell; have fab_12 := zab_12.frozen; have lab_12 := zab_12.lt
  have kabc_12 := zabc_12.cell; have fabc_12 := zabc_12.frozen; have labc_12 := zabc_12.lt
  have kbc_12 := zbc_12.cell; have fbc_12 := zbc_12.frozen; have lbc_12 := zbc_12.lt
  have kot_12 := zot_12.cell; have fot_12 := zot_12.frozen; have lot_12 := zot_12.lt
  have kf_12 := zf_12.cell; have ff_12 := zf_12.frozen; have lf_12 := zf_12.lt
  have kg_12 := zg_12.cell; have fg_12 := zg_12.frozen; have lg_12 := zg_12.lt
  have kwh_12 := zwh_12.cell; have fwh_12 := zwh_12.frozen; have lwh_12 := zwh_12.lt
  go_wp2_with fail
  refine (alive02 _).mono ?_
  rintro e w13 ⟨rfl, b13⟩
  have s13 := b13.size
  try simp only [World.size_alloc, World.size_setCell, World.size_drew, size_drewN] at s13
  obtain ⟨za_13, zb_13, zc_13, zab_13, zabc_13, zbc_13, zot_13, zf_13, zg_13, zwh_13, ra_13, rf_13, rg_13, rwh_13, bb_13⟩ : Blk w13 (w.heap.size) 24 [.slice Aa na ca, .int .i64 ((xa.length : Nat) : Int)] ∧ Blk w13 (w.heap.size + 1) 24 [.slice Ab nb cb, .int .i64 ((xb.length : Nat) : Int)] ∧ Blk w13 (w.heap.size + 1 + 1) 24 [.slice Ac nc cc, .int .i64 ((xc.length : Nat) : Int)] ∧ Blk w13 (w4.heap.size) 24 [.slice Aab mab cab, .int .i64 ((xab.length : Nat) : Int)] ∧ Blk w13 (w5.heap.size) 24 [.slice Aabc mabc cabc, .int .i64 ((xabc.length : Nat) : Int)] ∧ Blk w13 (w6.heap.size) 24 [.slice Abc mbc cbc, .int .i64 ((xbc.length : Nat) : Int)] ∧ Blk w13 (w7.heap.size) 24 [.slice Aot mot cot, .int .i64 ((xot.length : Nat) : Int)] ∧ Blk w13 (w9.heap.size) 24 [.slice Af mf cf, .int .i64 ((xf.length : Nat) : Int)] ∧ Blk w13 (w10.heap.size) 24 [.slice Ag mg cg, .int .i64 ((xg.length : Nat) : Int)] ∧ Blk w13 (w11.heap.size) 24 [.slice Awh mwh cwh, .int .i64 ((xwh.length : Nat) : Int)] ∧ RowIn .u8 w13 (0) (w.heap.size) Aa na (pack xa) ∧ RowIn .u8 w13 (w8.heap.size + 0) (w9.heap.size) Af mf (pack xf) ∧ RowIn .u8 w13 (w9.heap.size + 1) (w10.heap.size) Ag mg (pack xg) ∧ RowIn .u8 w13 (w10.heap.size + 1) (w11.heap.size) Awh mwh (pack xwh) ∧ Below w.heap.size w w13 := by
    refine ⟨?_, ?_, ?_, ?_, ?_, ?_, ?_, ?_, ?_, ?_, ?_, ?_, ?_, ?_, ?_⟩
    all_goals repeat' (first | (with_reducible assumption) | (with_reducible exact Below.refl _ _) | (with_reducible refine Blk.after ?_ b13) | (with_reducible refine RowIn.belowS ?_ b13) | (with_reducible refine Below.after ?_ b13 ?_) | (with_reducible refine Blk.drewN ?_ _) | (with_reducible refine RowIn.drewN ?_ _) | (with_reducible refine below_drewN ?_ _) | (with_reducible refine Blk.drew ?_) | (with_reducible refine RowIn.drew ?_) | (with_reducible refine Below.drew ?_) | (with_reducible refine Blk.new' ?_ ?_ <;> first | (with_reducible rfl) | (simp; done)) | (with_reducible refine Blk.alloc ?_ _) | (with_reducible refine RowIn.alloc ?_ _) | (with_reducible refine Below.alloc ?_ ?_ _) | (with_reducible refine Blk.set' ?_ ?_) | (with_reducible refine Blk.far' ?_ ?_ _) | (with_reducible refine RowIn.far' ?_ ?_ _) | (with_reducible refine Below.far' ?_ ?_ _) | rfl | omega | go_size)
  clear za_12 zb_12 zc_12 zab_12 zabc_12 zbc_12 zot_12 zf_12 zg_12 zwh_12 ra_12 rf_12 rg_12 rwh_12 bb_12 ka_12 fa_12 la_12 kb_12 fb_12 lb_12 kc_12 fc_12 lc_12 kab_12 fab_12 lab_12 kabc_12 fabc_12 labc_12 kbc_12 fbc_12 lbc_12 kot_12 fot_12 lot_12 kf_12 ff_12 lf_12 kg_12 fg_12 lg_12 kwh_12 fwh_12 lwh_12 b13
  have ka_13 := za_13.cell; have fa_13 := za_13.frozen; have la_13 := za_13.lt
  have kb_13 := zb_13.cell; have fb_13 := zb_13.frozen; have lb_13 := zb_13.lt
  have kc_13 := zc_13.cell; have fc_13 := zc_13.frozen; have lc_13 := zc_13.lt
  have kab_13 := zab_13.cell; have fab_13 := zab_13.frozen; have lab_13 := zab_13.lt
  have kabc_13 := zabc_13.cell; have fabc_13 := zabc_13.frozen; have labc_13 := zabc_13.lt
  have kbc_13 := zbc_13.cell; have fbc_13 := zbc_13.frozen; have lbc_13 := zbc_13.lt
  have kot_13 := zot_13.cell; have fot_13 := zot_13.frozen; have lot_13 := zot_13.lt
  have kf_13 := zf_13.cell; have ff_13 := zf_13.frozen; have lf_13 := zf_13.lt
  have kg_13 := zg_13.cell; have fg_13 := zg_13.frozen; have lg_13 := zg_13.lt
  have kwh_13 := zwh_13.cell; have fwh_13 := zwh_13.frozen; have lwh_13 := zwh_13.lt
  go_wp2
  go_ret
  refine ⟨rfl, ?_⟩
  repeat' (first | (with_reducible assumption) | (with_reducible exact Below.refl _ _) | (with_reducible refine Blk.drewN ?_ _) | (with_reducible refine RowIn.drewN ?_ _) | (with_reducible refine below_drewN ?_ _) | (with_reducible refine Blk.drew ?_) | (with_reducible refine RowIn.drew ?_) | (with_reducible refine Below.drew ?_) | (with_reducible refine Blk.new' ?_ ?_ <;> first | (with_reducible rfl) | (simp; done)) | (with_reducible refine Blk.alloc ?_ _) | (with_reducible refine RowIn.alloc ?_ _) | (with_reducible refine Below.alloc ?_ ?_ _) | (with_reducible refine Blk.set' ?_ ?_) | (with_reducible refine Blk.far' ?_ ?_ _) | (with_reducible refine RowIn.far' ?_ ?_ _) | (with_reducible refine Below.far' ?_ ?_ _) | rfl | omega | go_size)


end Go.Proofs.Ytlkgdkefimlmdaa
