/-
  The walk of BitsParts.
-/
import Derived.Test.YtlkgdkefimlmdaaRefE
namespace Go.Proofs.Ytlkgdkefimlmdaa
open Go.RowKit Cad Cad.Bit
set_option linter.unusedVariables false
set_option linter.unusedSimpArgs false


set_option maxRecDepth 100000 in
set_option maxHeartbeats 1000000 in
theorem lawBitsParts (w : World) (Aa : Option Addr) (na ca : Nat) (Na : Int) (xsa : List Int) (hAa : RowC .u8 w Aa na ca xsa) (hxa : Within 0 255 xsa) (hNa : -9223372036854775808 ≤ Na ∧ Na ≤ 9223372036854775807) (Ab : Option Addr) (nb cb : Nat) (Nb : Int) (xsb : List Int) (hAb : RowC .u8 w Ab nb cb xsb) (hxb : Within 0 255 xsb) (hNb : -9223372036854775808 ≤ Nb ∧ Nb ≤ 9223372036854775807) (p : Int) (hp : -9223372036854775808 ≤ p ∧ p ≤ 9223372036854775807) (q : Int) (hq : -9223372036854775808 ≤ q ∧ q ≤ 9223372036854775807) (Ar : Option Addr) (nr cr : Nat) (xsr : List Int) (hAr : RowC .u8 w Ar nr cr xsr) (hxr : Within 0 255 xsr) :
    Calls Try.prog 5 #[.agg #[.slice Aa na ca, .int .i64 Na], .agg #[.slice Ab nb cb, .int .i64 Nb], .int .i64 p, .int .i64 q, .slice Ar nr cr] w fun e w' => e = .returned (.bool true) ∧ Below w.heap.size w w' := by
  have haa := hAa.row
  have hca := hAa.2
  have hria := haa.rowIn
  have hab := hAb.row
  have hcb := hAb.2
  have hrib := hab.rowIn
  have har := hAr.row
  have hcr := hAr.2
  have hrir := har.rowIn
  by_cases hga : 190 < na ∧ na < 41230 ∨ 41350 < na
  · go_enter Try.func5, Try.ntmps5
    go_wp2_with fail
    refine (rgreat_yes Aa na ca _ _ hga).mono ?_
    rintro e w1 ⟨rfl, b1⟩
    have s1 := b1.size
    try simp only [World.size_alloc, World.size_setCell, World.size_drew, size_drewN] at s1
    obtain ⟨za_1, zb_1, ra_1, rb_1, rr_1, bb_1⟩ : Blk w1 (w.heap.size) 24 [.slice Aa na ca, .int .i64 Na] ∧ Blk w1 (w.heap.size + 1) 24 [.slice Ab nb cb, .int .i64 Nb] ∧ RowIn .u8 w1 (0) (w.heap.size) Aa na xsa ∧ RowIn .u8 w1 (0) (w.heap.size) Ab nb xsb ∧ RowIn .u8 w1 (0) (w.heap.size) Ar nr xsr ∧ Below w.heap.size w w1 := by
      refine ⟨?_, ?_, ?_, ?_, ?_, ?_⟩
      all_goals repeat' (first | (with_reducible assumption) | (with_reducible exact Below.refl _ _) | (with_reducible refine Blk.after ?_ b1) | (with_reducible refine RowIn.belowS ?_ b1) | (with_reducible refine Below.after ?_ b1 ?_) | (with_reducible refine Blk.drewN ?_ _) | (with_reducible refine RowIn.drewN ?_ _) | (with_reducible refine below_drewN ?_ _) | (with_reducible refine Blk.drew ?_) | (with_reducible refine RowIn.drew ?_) | (with_reducible refine Below.drew ?_) | (with_reducible refine Blk.new' ?_ ?_ <;> first | (with_reducible rfl) | (simp; done)) | (with_reducible refine Blk.alloc ?_ _) | (with_reducible refine RowIn.alloc ?_ _) | (with_reducible refine Below.alloc ?_ ?_ _) | (with_reducible apply Blk.set') | (with_reducible refine Blk.far' ?_ ?_ _) | (with_reducible refine RowIn.far' ?_ ?_ _) | (with_reducible refine Below.far' ?_ ?_ _) | rfl | omega | go_size)
    clear b1
    have ka_1 := za_1.cell; have fa_1 := za_1.frozen; have la_1 := za_1.lt
    have kb_1 := zb_1.cell; have fb_1 := zb_1.frozen; have lb_1 := zb_1.lt
    go_wp2
    go_ret
    refine ⟨rfl, ?_⟩
    repeat' (first | (with_reducible assumption) | (with_reducible exact Below.refl _ _) | (with_reducible refine Blk.drewN ?_ _) | (with_reducible refine RowIn.drewN ?_ _) | (with_reducible refine below_drewN ?_ _) | (with_reducible refine Blk.drew ?_) | (with_reducible refine RowIn.drew ?_) | (with_reducible refine Below.drew ?_) | (with_reducible refine Blk.new' ?_ ?_ <;> first | (with_reducible rfl) | (simp; done)) | (with_reducible refine Blk.alloc ?_ _) | (with_reducible refine RowIn.alloc ?_ _) | (with_reducible refine Below.alloc ?_ ?_ _) | (with_reducible apply Blk.set') | (with_reducible refine Blk.far' ?_ ?_ _) | (with_reducible refine RowIn.far' ?_ ?_ _) | (with_reducible refine Below.far' ?_ ?_ _) | rfl | omega | go_size)
  by_cases hgb : 190 < nb ∧ nb < 41230 ∨ 41350 < nb
  · go_enter Try.func5, Try.ntmps5
    go_wp2_with fail
    refine (rgreat_no Aa na ca _ _ hga).mono ?_
    rintro e w1 ⟨rfl, b1⟩
    have s1 := b1.size
    try simp only [World.size_alloc, World.size_setCell, World.size_drew, size_drewN] at s1
    obtain ⟨za_1, zb_1, ra_1, rb_1, rr_1, bb_1⟩ : Blk w1 (w.heap.size) 24 [.slice Aa na ca, .int .i64 Na] ∧ Blk w1 (w.heap.size + 1) 24 [.slice Ab nb cb, .int .i64 Nb] ∧ RowIn .u8 w1 (0) (w.heap.size) Aa na xsa ∧ RowIn .u8 w1 (0) (w.heap.size) Ab nb xsb ∧ RowIn .u8 w1 (0) (w.heap.size) Ar nr xsr ∧ Below w.heap.size w w1 := by
      refine ⟨?_, ?_, ?_, ?_, ?_, ?_⟩
      all_goals repeat' (first | (with_reducible assumption) | (with_reducible exact Below.refl _ _) | (with_reducible refine Blk.after ?_ b1) | (with_reducible refine RowIn.belowS ?_ b1) | (with_reducible refine Below.after ?_ b1 ?_) | (with_reducible refine Blk.drewN ?_ _) | (with_reducible refine RowIn.drewN ?_ _) | (with_reducible refine below_drewN ?_ _) | (with_reducible refine Blk.drew ?_) | (with_reducible refine RowIn.drew ?_) | (with_reducible refine Below.drew ?_) | (with_reducible refine Blk.new' ?_ ?_ <;> first | (with_reducible rfl) | (simp; done)) | (with_reducible refine Blk.alloc ?_ _) | (with_reducible refine RowIn.alloc ?_ _) | (with_reducible refine Below.alloc ?_ ?_ _) | (with_reducible apply Blk.set') | (with_reducible refine Blk.far' ?_ ?_ _) | (with_reducible refine RowIn.far' ?_ ?_ _) | (with_reducible refine Below.far' ?_ ?_ _) | rfl | omega | go_size)
    clear b1
    have ka_1 := za_1.cell; have fa_1 := za_1.frozen; have la_1 := za_1.lt
    have kb_1 := zb_1.cell; have fb_1 := zb_1.frozen; have lb_1 := zb_1.lt
    go_wp2_with fail
    refine (rgreat_yes Ab nb cb _ _ hgb).mono ?_
    rintro e w2 ⟨rfl, b2⟩
    have s2 := b2.size
    try simp only [World.size_alloc, World.size_setCell, World.size_drew, size_drewN] at s2
    obtain ⟨za_2, zb_2, ra_2, rb_2, rr_2, bb_2⟩ : Blk w2 (w.heap.size) 24 [.slice Aa na ca, .int .i64 Na] ∧ Blk w2 (w.heap.size + 1) 24 [.slice Ab nb cb, .int .i64 Nb] ∧ RowIn .u8 w2 (0) (w.heap.size) Aa na xsa ∧ RowIn .u8 w2 (0) (w.heap.size) Ab nb xsb ∧ RowIn .u8 w2 (0) (w.heap.size) Ar nr xsr ∧ Below w.heap.size w w2 := by
      refine ⟨?_, ?_, ?_, ?_, ?_, ?_⟩
      all_goals repeat' (first | (with_reducible assumption) | (with_reducible exact Below.refl _ _) | (with_reducible refine Blk.after ?_ b2) | (with_reducible refine RowIn.belowS ?_ b2) | (with_reducible refine Below.after ?_ b2 ?_) | (with_reducible refine Blk.drewN ?_ _) | (with_reducible refine RowIn.drewN ?_ _) | (with_reducible refine below_drewN ?_ _) | (with_reducible refine Blk.drew ?_) | (with_reducible refine RowIn.drew ?_) | (with_reducible refine Below.drew ?_) | (with_reducible refine Blk.new' ?_ ?_ <;> first | (with_reducible rfl) | (simp; done)) | (with_reducible refine Blk.alloc ?_ _) | (with_reducible refine RowIn.alloc ?_ _) | (with_reducible refine Below.alloc ?_ ?_ _) | (with_reducible apply Blk.set') | (with_reducible refine Blk.far' ?_ ?_ _) | (with_reducible refine RowIn.far' ?_ ?_ _) | (with_reducible refine Below.far' ?_ ?_ _) | rfl | omega | go_size)
    clear za_1 zb_1 ra_1 rb_1 rr_1 bb_1 ka_1 fa_1 la_1 kb_1 fb_1 lb_1 b2
    have ka_2 := za_2.cell; have fa_2 := za_2.frozen; have la_2 := za_2.lt
    have kb_2 := zb_2.cell; have fb_2 := zb_2.frozen; have lb_2 := zb_2.lt
    go_wp2
    go_ret
    refine ⟨rfl, ?_⟩
    repeat' (first | (with_reducible assumption) | (with_reducible exact Below.refl _ _) | (with_reducible refine Blk.drewN ?_ _) | (with_reducible refine RowIn.drewN ?_ _) | (with_reducible refine below_drewN ?_ _) | (with_reducible refine Blk.drew ?_) | (with_reducible refine RowIn.drew ?_) | (with_reducible refine Below.drew ?_) | (with_reducible refine Blk.new' ?_ ?_ <;> first | (with_reducible rfl) | (simp; done)) | (with_reducible refine Blk.alloc ?_ _) | (with_reducible refine RowIn.alloc ?_ _) | (with_reducible refine Below.alloc ?_ ?_ _) | (with_reducible apply Blk.set') | (with_reducible refine Blk.far' ?_ ?_ _) | (with_reducible refine RowIn.far' ?_ ?_ _) | (with_reducible refine Below.far' ?_ ?_ _) | rfl | omega | go_size)
  by_cases hgr : 190 < nr ∧ nr < 41230 ∨ 41350 < nr
  · go_enter Try.func5, Try.ntmps5
    go_wp2_with fail
    refine (rgreat_no Aa na ca _ _ hga).mono ?_
    rintro e w1 ⟨rfl, b1⟩
    have s1 := b1.size
    try simp only [World.size_alloc, World.size_setCell, World.size_drew, size_drewN] at s1
    obtain ⟨za_1, zb_1, ra_1, rb_1, rr_1, bb_1⟩ : Blk w1 (w.heap.size) 24 [.slice Aa na ca, .int .i64 Na] ∧ Blk w1 (w.heap.size + 1) 24 [.slice Ab nb cb, .int .i64 Nb] ∧ RowIn .u8 w1 (0) (w.heap.size) Aa na xsa ∧ RowIn .u8 w1 (0) (w.heap.size) Ab nb xsb ∧ RowIn .u8 w1 (0) (w.heap.size) Ar nr xsr ∧ Below w.heap.size w w1 := by
      refine ⟨?_, ?_, ?_, ?_, ?_, ?_⟩
      all_goals repeat' (first | (with_reducible assumption) | (with_reducible exact Below.refl _ _) | (with_reducible refine Blk.after ?_ b1) | (with_reducible refine RowIn.belowS ?_ b1) | (with_reducible refine Below.after ?_ b1 ?_) | (with_reducible refine Blk.drewN ?_ _) | (with_reducible refine RowIn.drewN ?_ _) | (with_reducible refine below_drewN ?_ _) | (with_reducible refine Blk.drew ?_) | (with_reducible refine RowIn.drew ?_) | (with_reducible refine Below.drew ?_) | (with_reducible refine Blk.new' ?_ ?_ <;> first | (with_reducible rfl) | (simp; done)) | (with_reducible refine Blk.alloc ?_ _) | (with_reducible refine RowIn.alloc ?_ _) | (with_reducible refine Below.alloc ?_ ?_ _) | (with_reducible apply Blk.set') | (with_reducible refine Blk.far' ?_ ?_ _) | (with_reducible refine RowIn.far' ?_ ?_ _) | (with_reducible refine Below.far' ?_ ?_ _) | rfl | omega | go_size)
    clear b1
    have ka_1 := za_1.cell; have fa_1 := za_1.frozen; have la_1 := za_1.lt
    have kb_1 := zb_1.cell; have fb_1 := zb_1.frozen; have lb_1 := zb_1.lt
    go_wp2_with fail
    refine (rgreat_no Ab nb cb _ _ hgb).mono ?_
    rintro e w2 ⟨rfl, b2⟩
    have s2 := b2.size
    try simp only [World.size_alloc, World.size_setCell, World.size_drew, size_drewN] at s2
    obtain ⟨za_2, zb_2, ra_2, rb_2, rr_2, bb_2⟩ : Blk w2 (w.heap.size) 24 [.slice Aa na ca, .int .i64 Na] ∧ Blk w2 (w.heap.size + 1) 24 [.slice Ab nb cb, .int .i64 Nb] ∧ RowIn .u8 w2 (0) (w.heap.size) Aa na xsa ∧ RowIn .u8 w2 (0) (w.heap.size) Ab nb xsb ∧ RowIn .u8 w2 (0) (w.heap.size) Ar nr xsr ∧ Below w.heap.size w w2 := by
      refine ⟨?_, ?_, ?_, ?_, ?_, ?_⟩
      all_goals repeat' (first | (with_reducible assumption) | (with_reducible exact Below.refl _ _) | (with_reducible refine Blk.after ?_ b2) | (with_reducible refine RowIn.belowS ?_ b2) | (with_reducible refine Below.after ?_ b2 ?_) | (with_reducible refine Blk.drewN ?_ _) | (with_reducible refine RowIn.drewN ?_ _) | (with_reducible refine below_drewN ?_ _) | (with_reducible refine Blk.drew ?_) | (with_reducible refine RowIn.drew ?_) | (with_reducible refine Below.drew ?_) | (with_reducible refine Blk.new' ?_ ?_ <;> first | (with_reducible rfl) | (simp; done)) | (with_reducible refine Blk.alloc ?_ _) | (with_reducible refine RowIn.alloc ?_ _) | (with_reducible refine Below.alloc ?_ ?_ _) | (with_reducible apply Blk.set') | (with_reducible refine Blk.far' ?_ ?_ _) | (with_reducible refine RowIn.far' ?_ ?_ _) | (with_reducible refine Below.far' ?_ ?_ _) | rfl | omega | go_size)
    clear za_1 zb_1 ra_1 rb_1 rr_1 bb_1 ka_1 fa_1 la_1 kb_1 fb_1 lb_1 b2
    have ka_2 := za_2.cell; have fa_2 := za_2.frozen; have la_2 := za_2.lt
    have kb_2 := zb_2.cell; have fb_2 := zb_2.frozen; have lb_2 := zb_2.lt
    go_wp2_with fail
    refine (rgreat_yes Ar nr cr _ _ hgr).mono ?_
    rintro e w3 ⟨rfl, b3⟩
    have s3 := b3.size
    try simp only [World.size_alloc, World.size_setCell, World.size_drew, size_drewN] at s3
    obtain ⟨za_3, zb_3, ra_3, rb_3, rr_3, bb_3⟩ : Blk w3 (w.heap.size) 24 [.slice Aa na ca, .int .i64 Na] ∧ Blk w3 (w.heap.size + 1) 24 [.slice Ab nb cb, .int .i64 Nb] ∧ RowIn .u8 w3 (0) (w.heap.size) Aa na xsa ∧ RowIn .u8 w3 (0) (w.heap.size) Ab nb xsb ∧ RowIn .u8 w3 (0) (w.heap.size) Ar nr xsr ∧ Below w.heap.size w w3 := by
      refine ⟨?_, ?_, ?_, ?_, ?_, ?_⟩
      all_goals repeat' (first | (with_reducible assumption) | (with_reducible exact Below.refl _ _) | (with_reducible refine Blk.after ?_ b3) | (with_reducible refine RowIn.belowS ?_ b3) | (with_reducible refine Below.after ?_ b3 ?_) | (with_reducible refine Blk.drewN ?_ _) | (with_reducible refine RowIn.drewN ?_ _) | (with_reducible refine below_drewN ?_ _) | (with_reducible refine Blk.drew ?_) | (with_reducible refine RowIn.drew ?_) | (with_reducible refine Below.drew ?_) | (with_reducible refine Blk.new' ?_ ?_ <;> first | (with_reducible rfl) | (simp; done)) | (with_reducible refine Blk.alloc ?_ _) | (with_reducible refine RowIn.alloc ?_ _) | (with_reducible refine Below.alloc ?_ ?_ _) | (with_reducible apply Blk.set') | (with_reducible refine Blk.far' ?_ ?_ _) | (with_reducible refine RowIn.far' ?_ ?_ _) | (with_reducible refine Below.far' ?_ ?_ _) | rfl | omega | go_size)
    clear za_2 zb_2 ra_2 rb_2 rr_2 bb_2 ka_2 fa_2 la_2 kb_2 fb_2 lb_2 b3
    have ka_3 := za_3.cell; have fa_3 := za_3.frozen; have la_3 := za_3.lt
    have kb_3 := zb_3.cell; have fb_3 := zb_3.frozen; have lb_3 := zb_3.lt
    go_wp2
    go_ret
    refine ⟨rfl, ?_⟩
    repeat' (first | (with_reducible assumption) | (with_reducible exact Below.refl _ _) | (with_reducible refine Blk.drewN ?_ _) | (with_reducible refine RowIn.drewN ?_ _) | (with_reducible refine below_drewN ?_ _) | (with_reducible refine Blk.drew ?_) | (with_reducible refine RowIn.drew ?_) | (with_reducible refine Below.drew ?_) | (with_reducible refine Blk.new' ?_ ?_ <;> first | (with_reducible rfl) | (simp; done)) | (with_reducible refine Blk.alloc ?_ _) | (with_reducible refine RowIn.alloc ?_ _) | (with_reducible refine Below.alloc ?_ ?_ _) | (with_reducible apply Blk.set') | (with_reducible refine Blk.far' ?_ ?_ _) | (with_reducible refine RowIn.far' ?_ ?_ _) | (with_reducible refine Below.far' ?_ ?_ _) | rfl | omega | go_size)
  by_cases hva : ¬ Valid xsa Na
  · have hvj : ¬ (Valid xsa Na ∧ Valid xsb Nb) := fun h => hva h.1
    go_enter Try.func5, Try.ntmps5
    go_wp2_with fail
    refine (rgreat_no Aa na ca _ _ hga).mono ?_
    rintro e w1 ⟨rfl, b1⟩
    have s1 := b1.size
    try simp only [World.size_alloc, World.size_setCell, World.size_drew, size_drewN] at s1
    obtain ⟨za_1, zb_1, ra_1, rb_1, rr_1, bb_1⟩ : Blk w1 (w.heap.size) 24 [.slice Aa na ca, .int .i64 Na] ∧ Blk w1 (w.heap.size + 1) 24 [.slice Ab nb cb, .int .i64 Nb] ∧ RowIn .u8 w1 (0) (w.heap.size) Aa na xsa ∧ RowIn .u8 w1 (0) (w.heap.size) Ab nb xsb ∧ RowIn .u8 w1 (0) (w.heap.size) Ar nr xsr ∧ Below w.heap.size w w1 := by
      refine ⟨?_, ?_, ?_, ?_, ?_, ?_⟩
      all_goals repeat' (first | (with_reducible assumption) | (with_reducible exact Below.refl _ _) | (with_reducible refine Blk.after ?_ b1) | (with_reducible refine RowIn.belowS ?_ b1) | (with_reducible refine Below.after ?_ b1 ?_) | (with_reducible refine Blk.drewN ?_ _) | (with_reducible refine RowIn.drewN ?_ _) | (with_reducible refine below_drewN ?_ _) | (with_reducible refine Blk.drew ?_) | (with_reducible refine RowIn.drew ?_) | (with_reducible refine Below.drew ?_) | (with_reducible refine Blk.new' ?_ ?_ <;> first | (with_reducible rfl) | (simp; done)) | (with_reducible refine Blk.alloc ?_ _) | (with_reducible refine RowIn.alloc ?_ _) | (with_reducible refine Below.alloc ?_ ?_ _) | (with_reducible apply Blk.set') | (with_reducible refine Blk.far' ?_ ?_ _) | (with_reducible refine RowIn.far' ?_ ?_ _) | (with_reducible refine Below.far' ?_ ?_ _) | rfl | omega | go_size)
    clear b1
    have ka_1 := za_1.cell; have fa_1 := za_1.frozen; have la_1 := za_1.lt
    have kb_1 := zb_1.cell; have fb_1 := zb_1.frozen; have lb_1 := zb_1.lt
    go_wp2_with fail
    refine (rgreat_no Ab nb cb _ _ hgb).mono ?_
    rintro e w2 ⟨rfl, b2⟩
    have s2 := b2.size
    try simp only [World.size_alloc, World.size_setCell, World.size_drew, size_drewN] at s2
    obtain ⟨za_2, zb_2, ra_2, rb_2, rr_2, bb_2⟩ : Blk w2 (w.heap.size) 24 [.slice Aa na ca, .int .i64 Na] ∧ Blk w2 (w.heap.size + 1) 24 [.slice Ab nb cb, .int .i64 Nb] ∧ RowIn .u8 w2 (0) (w.heap.size) Aa na xsa ∧ RowIn .u8 w2 (0) (w.heap.size) Ab nb xsb ∧ RowIn .u8 w2 (0) (w.heap.size) Ar nr xsr ∧ Below w.heap.size w w2 := by
      refine ⟨?_, ?_, ?_, ?_, ?_, ?_⟩
      all_goals repeat' (first | (with_reducible assumption) | (with_reducible exact Below.refl _ _) | (with_reducible refine Blk.after ?_ b2) | (with_reducible refine RowIn.belowS ?_ b2) | (with_reducible refine Below.after ?_ b2 ?_) | (with_reducible refine Blk.drewN ?_ _) | (with_reducible refine RowIn.drewN ?_ _) | (with_reducible refine below_drewN ?_ _) | (with_reducible refine Blk.drew ?_) | (with_reducible refine RowIn.drew ?_) | (with_reducible refine Below.drew ?_) | (with_reducible refine Blk.new' ?_ ?_ <;> first | (with_reducible rfl) | (simp; done)) | (with_reducible refine Blk.alloc ?_ _) | (with_reducible refine RowIn.alloc ?_ _) | (with_reducible refine Below.alloc ?_ ?_ _) | (with_reducible apply Blk.set') | (with_reducible refine Blk.far' ?_ ?_ _) | (with_reducible refine RowIn.far' ?_ ?_ _) | (with_reducible refine Below.far' ?_ ?_ _) | rfl | omega | go_size)
    clear za_1 zb_1 ra_1 rb_1 rr_1 bb_1 ka_1 fa_1 la_1 kb_1 fb_1 lb_1 b2
    have ka_2 := za_2.cell; have fa_2 := za_2.frozen; have la_2 := za_2.lt
    have kb_2 := zb_2.cell; have fb_2 := zb_2.frozen; have lb_2 := zb_2.lt
    go_wp2_with fail
    refine (rgreat_no Ar nr cr _ _ hgr).mono ?_
    rintro e w3 ⟨rfl, b3⟩
    have s3 := b3.size
    try simp only [World.size_alloc, World.size_setCell, World.size_drew, size_drewN] at s3
    obtain ⟨za_3, zb_3, ra_3, rb_3, rr_3, bb_3⟩ : Blk w3 (w.heap.size) 24 [.slice Aa na ca, .int .i64 Na] ∧ Blk w3 (w.heap.size + 1) 24 [.slice Ab nb cb, .int .i64 Nb] ∧ RowIn .u8 w3 (0) (w.heap.size) Aa na xsa ∧ RowIn .u8 w3 (0) (w.heap.size) Ab nb xsb ∧ RowIn .u8 w3 (0) (w.heap.size) Ar nr xsr ∧ Below w.heap.size w w3 := by
      refine ⟨?_, ?_, ?_, ?_, ?_, ?_⟩
      all_goals repeat' (first | (with_reducible assumption) | (with_reducible exact Below.refl _ _) | (with_reducible refine Blk.after ?_ b3) | (with_reducible refine RowIn.belowS ?_ b3) | (with_reducible refine Below.after ?_ b3 ?_) | (with_reducible refine Blk.drewN ?_ _) | (with_reducible refine RowIn.drewN ?_ _) | (with_reducible refine below_drewN ?_ _) | (with_reducible refine Blk.drew ?_) | (with_reducible refine RowIn.drew ?_) | (with_reducible refine Below.drew ?_) | (with_reducible refine Blk.new' ?_ ?_ <;> first | (with_reducible rfl) | (simp; done)) | (with_reducible refine Blk.alloc ?_ _) | (with_reducible refine RowIn.alloc ?_ _) | (with_reducible refine Below.alloc ?_ ?_ _) | (with_reducible apply Blk.set') | (with_reducible refine Blk.far' ?_ ?_ _) | (with_reducible refine RowIn.far' ?_ ?_ _) | (with_reducible refine Below.far' ?_ ?_ _) | rfl | omega | go_size)
    clear za_2 zb_2 ra_2 rb_2 rr_2 bb_2 ka_2 fa_2 la_2 kb_2 fb_2 lb_2 b3
    have ka_3 := za_3.cell; have fa_3 := za_3.frozen; have la_3 := za_3.lt
    have kb_3 := zb_3.cell; have fb_3 := zb_3.frozen; have lb_3 := zb_3.lt
    go_wp2_with fail
    refine (bjoin_bad Aa Ab na ca nb cb Na Nb xsa xsb _ ra_3.row rb_3.row hxa hxb hca hcb hvj).mono ?_
    rintro e w4 ⟨Ac, mc, cc, xc, rfl, hcc, rc, HXc, b4⟩
    replace rc := rc.mono (lo' := w3.heap.size + 0) (by go_size) (Nat.le_refl _)
    have s4 := b4.size
    try simp only [World.size_alloc, World.size_setCell, World.size_drew, size_drewN] at s4
    obtain ⟨za_4, zb_4, ra_4, rb_4, rr_4, rc_4, bb_4⟩ : Blk w4 (w.heap.size) 24 [.slice Aa na ca, .int .i64 Na] ∧ Blk w4 (w.heap.size + 1) 24 [.slice Ab nb cb, .int .i64 Nb] ∧ RowIn .u8 w4 (0) (w.heap.size) Aa na xsa ∧ RowIn .u8 w4 (0) (w.heap.size) Ab nb xsb ∧ RowIn .u8 w4 (0) (w.heap.size) Ar nr xsr ∧ RowIn .u8 w4 (w3.heap.size + 0) (w4.heap.size) Ac mc (pack xc) ∧ Below w.heap.size w w4 := by
      refine ⟨?_, ?_, ?_, ?_, ?_, ?_, ?_⟩
      all_goals repeat' (first | (with_reducible assumption) | (with_reducible exact Below.refl _ _) | (with_reducible refine Blk.after ?_ b4) | (with_reducible refine RowIn.belowS ?_ b4) | (with_reducible refine Below.after ?_ b4 ?_) | (with_reducible refine Blk.drewN ?_ _) | (with_reducible refine RowIn.drewN ?_ _) | (with_reducible refine below_drewN ?_ _) | (with_reducible refine Blk.drew ?_) | (with_reducible refine RowIn.drew ?_) | (with_reducible refine Below.drew ?_) | (with_reducible refine Blk.new' ?_ ?_ <;> first | (with_reducible rfl) | (simp; done)) | (with_reducible refine Blk.alloc ?_ _) | (with_reducible refine RowIn.alloc ?_ _) | (with_reducible refine Below.alloc ?_ ?_ _) | (with_reducible apply Blk.set') | (with_reducible refine Blk.far' ?_ ?_ _) | (with_reducible refine RowIn.far' ?_ ?_ _) | (with_reducible refine Below.far' ?_ ?_ _) | rfl | omega | go_size)
    clear za_3 zb_3 ra_3 rb_3 rr_3 bb_3 ka_3 fa_3 la_3 kb_3 fb_3 lb_3 b4
    have ka_4 := za_4.cell; have fa_4 := za_4.frozen; have la_4 := za_4.lt
    have kb_4 := zb_4.cell; have fb_4 := zb_4.frozen; have lb_4 := zb_4.lt
    clear rc
    go_wp2_with fail
    refine (rjoin_bad Aa Ab na ca nb cb Na Nb xsa xsb _ (by exact (ra_4.row.alloc _)) (by exact (rb_4.row.alloc _)) hxa hxb hca hcb hvj).mono ?_
    rintro e w5 ⟨Ad, md, cd, xd, rfl, hcd, rd, HXd, b5⟩
    replace rd := rd.mono (lo' := w4.heap.size + 1) (by go_size) (Nat.le_refl _)
    have s5 := b5.size
    try simp only [World.size_alloc, World.size_setCell, World.size_drew, size_drewN] at s5
    obtain ⟨za_5, zb_5, zc_5, ra_5, rb_5, rr_5, rc_5, rd_5, bb_5⟩ : Blk w5 (w.heap.size) 24 [.slice Aa na ca, .int .i64 Na] ∧ Blk w5 (w.heap.size + 1) 24 [.slice Ab nb cb, .int .i64 Nb] ∧ Blk w5 (w4.heap.size) 24 [.slice Ac mc cc, .int .i64 ((xc.length : Nat) : Int)] ∧ RowIn .u8 w5 (0) (w.heap.size) Aa na xsa ∧ RowIn .u8 w5 (0) (w.heap.size) Ab nb xsb ∧ RowIn .u8 w5 (0) (w.heap.size) Ar nr xsr ∧ RowIn .u8 w5 (w3.heap.size + 0) (w4.heap.size) Ac mc (pack xc) ∧ RowIn .u8 w5 (w4.heap.size + 1) (w5.heap.size) Ad md (pack xd) ∧ Below w.heap.size w w5 := by
      refine ⟨?_, ?_, ?_, ?_, ?_, ?_, ?_, ?_, ?_⟩
      all_goals repeat' (first | (with_reducible assumption) | (with_reducible exact Below.refl _ _) | (with_reducible refine Blk.after ?_ b5) | (with_reducible refine RowIn.belowS ?_ b5) | (with_reducible refine Below.after ?_ b5 ?_) | (with_reducible refine Blk.drewN ?_ _) | (with_reducible refine RowIn.drewN ?_ _) | (with_reducible refine below_drewN ?_ _) | (with_reducible refine Blk.drew ?_) | (with_reducible refine RowIn.drew ?_) | (with_reducible refine Below.drew ?_) | (with_reducible refine Blk.new' ?_ ?_ <;> first | (with_reducible rfl) | (simp; done)) | (with_reducible refine Blk.alloc ?_ _) | (with_reducible refine RowIn.alloc ?_ _) | (with_reducible refine Below.alloc ?_ ?_ _) | (with_reducible apply Blk.set') | (with_reducible refine Blk.far' ?_ ?_ _) | (with_reducible refine RowIn.far' ?_ ?_ _) | (with_reducible refine Below.far' ?_ ?_ _) | rfl | omega | go_size)
    clear za_4 zb_4 ra_4 rb_4 rr_4 rc_4 bb_4 ka_4 fa_4 la_4 kb_4 fb_4 lb_4 b5
    have ka_5 := za_5.cell; have fa_5 := za_5.frozen; have la_5 := za_5.lt
    have kb_5 := zb_5.cell; have fb_5 := zb_5.frozen; have lb_5 := zb_5.lt
    have kc_5 := zc_5.cell; have fc_5 := zc_5.frozen; have lc_5 := zc_5.lt
    clear rd
    go_wp2_with fail
    refine (bcut_bad Aa na ca Na xsa p q _ (by exact (ra_5.row.alloc _)) hxa hca hva).mono ?_
    rintro e w6 ⟨Ax, mx, cx, xx, rfl, hcx, rx, HXx, b6⟩
    replace rx := rx.mono (lo' := w5.heap.size + 1) (by go_size) (Nat.le_refl _)
    have s6 := b6.size
    try simp only [World.size_alloc, World.size_setCell, World.size_drew, size_drewN] at s6
    obtain ⟨za_6, zb_6, zc_6, zd_6, ra_6, rb_6, rr_6, rc_6, rd_6, rx_6, bb_6⟩ : Blk w6 (w.heap.size) 24 [.slice Aa na ca, .int .i64 Na] ∧ Blk w6 (w.heap.size + 1) 24 [.slice Ab nb cb, .int .i64 Nb] ∧ Blk w6 (w4.heap.size) 24 [.slice Ac mc cc, .int .i64 ((xc.length : Nat) : Int)] ∧ Blk w6 (w5.heap.size) 24 [.slice Ad md cd, .int .i64 ((xd.length : Nat) : Int)] ∧ RowIn .u8 w6 (0) (w.heap.size) Aa na xsa ∧ RowIn .u8 w6 (0) (w.heap.size) Ab nb xsb ∧ RowIn .u8 w6 (0) (w.heap.size) Ar nr xsr ∧ RowIn .u8 w6 (w3.heap.size + 0) (w4.heap.size) Ac mc (pack xc) ∧ RowIn .u8 w6 (w4.heap.size + 1) (w5.heap.size) Ad md (pack xd) ∧ RowIn .u8 w6 (w5.heap.size + 1) (w6.heap.size) Ax mx (pack xx) ∧ Below w.heap.size w w6 := by
      refine ⟨?_, ?_, ?_, ?_, ?_, ?_, ?_, ?_, ?_, ?_, ?_⟩
      all_goals repeat' (first | (with_reducible assumption) | (with_reducible exact Below.refl _ _) | (with_reducible refine Blk.after ?_ b6) | (with_reducible refine RowIn.belowS ?_ b6) | (with_reducible refine Below.after ?_ b6 ?_) | (with_reducible refine Blk.drewN ?_ _) | (with_reducible refine RowIn.drewN ?_ _) | (with_reducible refine below_drewN ?_ _) | (with_reducible refine Blk.drew ?_) | (with_reducible refine RowIn.drew ?_) | (with_reducible refine Below.drew ?_) | (with_reducible refine Blk.new' ?_ ?_ <;> first | (with_reducible rfl) | (simp; done)) | (with_reducible refine Blk.alloc ?_ _) | (with_reducible refine RowIn.alloc ?_ _) | (with_reducible refine Below.alloc ?_ ?_ _) | (with_reducible apply Blk.set') | (with_reducible refine Blk.far' ?_ ?_ _) | (with_reducible refine RowIn.far' ?_ ?_ _) | (with_reducible refine Below.far' ?_ ?_ _) | rfl | omega | go_size)
    clear za_5 zb_5 zc_5 ra_5 rb_5 rr_5 rc_5 rd_5 bb_5 ka_5 fa_5 la_5 kb_5 fb_5 lb_5 kc_5 fc_5 lc_5 b6
    have ka_6 := za_6.cell; have fa_6 := za_6.frozen; have la_6 := za_6.lt
    have kb_6 := zb_6.cell; have fb_6 := zb_6.frozen; have lb_6 := zb_6.lt
    have kc_6 := zc_6.cell; have fc_6 := zc_6.frozen; have lc_6 := zc_6.lt
    have kd_6 := zd_6.cell; have fd_6 := zd_6.frozen; have ld_6 := zd_6.lt
    clear rx
    go_wp2_with fail
    refine (rcut_bad Aa na ca Na xsa p q _ (by exact (ra_6.row.alloc _)) hxa hca hva).mono ?_
    rintro e w7 ⟨Ay, my, cy, xy, rfl, hcy, ry, HXy, b7⟩
    replace ry := ry.mono (lo' := w6.heap.size + 1) (by go_size) (Nat.le_refl _)
    have s7 := b7.size
    try simp only [World.size_alloc, World.size_setCell, World.size_drew, size_drewN] at s7
    obtain ⟨za_7, zb_7, zc_7, zd_7, zx_7, ra_7, rb_7, rr_7, rc_7, rd_7, rx_7, ry_7, bb_7⟩ : Blk w7 (w.heap.size) 24 [.slice Aa na ca, .int .i64 Na] ∧ Blk w7 (w.heap.size + 1) 24 [.slice Ab nb cb, .int .i64 Nb] ∧ Blk w7 (w4.heap.size) 24 [.slice Ac mc cc, .int .i64 ((xc.length : Nat) : Int)] ∧ Blk w7 (w5.heap.size) 24 [.slice Ad md cd, .int .i64 ((xd.length : Nat) : Int)] ∧ Blk w7 (w6.heap.size) 24 [.slice Ax mx cx, .int .i64 ((xx.length : Nat) : Int)] ∧ RowIn .u8 w7 (0) (w.heap.size) Aa na xsa ∧ RowIn .u8 w7 (0) (w.heap.size) Ab nb xsb ∧ RowIn .u8 w7 (0) (w.heap.size) Ar nr xsr ∧ RowIn .u8 w7 (w3.heap.size + 0) (w4.heap.size) Ac mc (pack xc) ∧ RowIn .u8 w7 (w4.heap.size + 1) (w5.heap.size) Ad md (pack xd) ∧ RowIn .u8 w7 (w5.heap.size + 1) (w6.heap.size) Ax mx (pack xx) ∧ RowIn .u8 w7 (w6.heap.size + 1) (w7.heap.size) Ay my (pack xy) ∧ Below w.heap.size w w7 := by
      refine ⟨?_, ?_, ?_, ?_, ?_, ?_, ?_, ?_, ?_, ?_, ?_, ?_, ?_⟩
      all_goals repeat' (first | (with_reducible assumption) | (with_reducible exact Below.refl _ _) | (with_reducible refine Blk.after ?_ b7) | (with_reducible refine RowIn.belowS ?_ b7) | (with_reducible refine Below.after ?_ b7 ?_) | (with_reducible refine Blk.drewN ?_ _) | (with_reducible refine RowIn.drewN ?_ _) | (with_reducible refine below_drewN ?_ _) | (with_reducible refine Blk.drew ?_) | (with_reducible refine RowIn.drew ?_) | (with_reducible refine Below.drew ?_) | (with_reducible refine Blk.new' ?_ ?_ <;> first | (with_reducible rfl) | (simp; done)) | (with_reducible refine Blk.alloc ?_ _) | (with_reducible refine RowIn.alloc ?_ _) | (with_reducible refine Below.alloc ?_ ?_ _) | (with_reducible apply Blk.set') | (with_reducible refine Blk.far' ?_ ?_ _) | (with_reducible refine RowIn.far' ?_ ?_ _) | (with_reducible refine Below.far' ?_ ?_ _) | rfl | omega | go_size)
    clear za_6 zb_6 zc_6 zd_6 ra_6 rb_6 rr_6 rc_6 rd_6 rx_6 bb_6 ka_6 fa_6 la_6 kb_6 fb_6 lb_6 kc_6 fc_6 lc_6 kd_6 fd_6 ld_6 b7
    have ka_7 := za_7.cell; have fa_7 := za_7.frozen; have la_7 := za_7.lt
    have kb_7 := zb_7.cell; have fb_7 := zb_7.frozen; have lb_7 := zb_7.lt
    have kc_7 := zc_7.cell; have fc_7 := zc_7.frozen; have lc_7 := zc_7.lt
    have kd_7 := zd_7.cell; have fd_7 := zd_7.frozen; have ld_7 := zd_7.lt
    have kx_7 := zx_7.cell; have fx_7 := zx_7.frozen; have lx_7 := zx_7.lt
    clear ry
    go_wp2_with fail
    refine (bof_ret Ar nr cr xsr _ (by exact (rr_7.row.alloc _)) hxr hcr).mono ?_
    rintro e w8 ⟨Au, mu, cu, xu, rfl, hcu, ru, HXu, b8⟩
    replace ru := ru.mono (lo' := w7.heap.size + 1) (by go_size) (Nat.le_refl _)
    have s8 := b8.size
    try simp only [World.size_alloc, World.size_setCell, World.size_drew, size_drewN] at s8
    obtain ⟨za_8, zb_8, zc_8, zd_8, zx_8, zy_8, ra_8, rb_8, rr_8, rc_8, rd_8, rx_8, ry_8, ru_8, bb_8⟩ : Blk w8 (w.heap.size) 24 [.slice Aa na ca, .int .i64 Na] ∧ Blk w8 (w.heap.size + 1) 24 [.slice Ab nb cb, .int .i64 Nb] ∧ Blk w8 (w4.heap.size) 24 [.slice Ac mc cc, .int .i64 ((xc.length : Nat) : Int)] ∧ Blk w8 (w5.heap.size) 24 [.slice Ad md cd, .int .i64 ((xd.length : Nat) : Int)] ∧ Blk w8 (w6.heap.size) 24 [.slice Ax mx cx, .int .i64 ((xx.length : Nat) : Int)] ∧ Blk w8 (w7.heap.size) 24 [.slice Ay my cy, .int .i64 ((xy.length : Nat) : Int)] ∧ RowIn .u8 w8 (0) (w.heap.size) Aa na xsa ∧ RowIn .u8 w8 (0) (w.heap.size) Ab nb xsb ∧ RowIn .u8 w8 (0) (w.heap.size) Ar nr xsr ∧ RowIn .u8 w8 (w3.heap.size + 0) (w4.heap.size) Ac mc (pack xc) ∧ RowIn .u8 w8 (w4.heap.size + 1) (w5.heap.size) Ad md (pack xd) ∧ RowIn .u8 w8 (w5.heap.size + 1) (w6.heap.size) Ax mx (pack xx) ∧ RowIn .u8 w8 (w6.heap.size + 1) (w7.heap.size) Ay my (pack xy) ∧ RowIn .u8 w8 (w7.heap.size + 1) (w8.heap.size) Au mu (pack xu) ∧ Below w.heap.size w w8 := by
      refine ⟨?_, ?_, ?_, ?_, ?_, ?_, ?_, ?_, ?_, ?_, ?_, ?_, ?_, ?_, ?_⟩
      all_goals repeat' (first | (with_reducible assumption) | (with_reducible exact Below.refl _ _) | (with_reducible refine Blk.after ?_ b8) | (with_reducible refine RowIn.belowS ?_ b8) | (with_reducible refine Below.after ?_ b8 ?_) | (with_reducible refine Blk.drewN ?_ _) | (with_reducible refine RowIn.drewN ?_ _) | (with_reducible refine below_drewN ?_ _) | (with_reducible refine Blk.drew ?_) | (with_reducible refine RowIn.drew ?_) | (with_reducible refine Below.drew ?_) | (with_reducible refine Blk.new' ?_ ?_ <;> first | (with_reducible rfl) | (simp; done)) | (with_reducible refine Blk.alloc ?_ _) | (with_reducible refine RowIn.alloc ?_ _) | (with_reducible refine Below.alloc ?_ ?_ _) | (with_reducible apply Blk.set') | (with_reducible refine Blk.far' ?_ ?_ _) | (with_reducible refine RowIn.far' ?_ ?_ _) | (with_reducible refine Below.far' ?_ ?_ _) | rfl | omega | go_size)
    clear za_7 zb_7 zc_7 zd_7 zx_7 ra_7 rb_7 rr_7 rc_7 rd_7 rx_7 ry_7 bb_7 ka_7 fa_7 la_7 kb_7 fb_7 lb_7 kc_7 fc_7 lc_7 kd_7 fd_7 ld_7 kx_7 fx_7 lx_7 b8
    have ka_8 := za_8.cell; have fa_8 := za_8.frozen; have la_8 := za_8.lt
    have kb_8 := zb_8.cell; have fb_8 := zb_8.frozen; have lb_8 := zb_8.lt
    have kc_8 := zc_8.cell; have fc_8 := zc_8.frozen; have lc_8 := zc_8.lt
    have kd_8 := zd_8.cell; have fd_8 := zd_8.frozen; have ld_8 := zd_8.lt
    have kx_8 := zx_8.cell; have fx_8 := zx_8.frozen; have lx_8 := zx_8.lt
    have ky_8 := zy_8.cell; have fy_8 := zy_8.frozen; have ly_8 := zy_8.lt
    clear ru
    go_wp2_with fail
    refine (rof_ret Ar nr cr xsr _ (by exact (rr_8.row.alloc _)) hxr hcr).mono ?_
    rintro e w9 ⟨Av, mv, cv, xv, rfl, hcv, rv, HXv, b9⟩
    replace rv := rv.mono (lo' := w8.heap.size + 1) (by go_size) (Nat.le_refl _)
    have s9 := b9.size
    try simp only [World.size_alloc, World.size_setCell, World.size_drew, size_drewN] at s9
    obtain ⟨za_9, zb_9, zc_9, zd_9, zx_9, zy_9, zu_9, ra_9, rb_9, rr_9, rc_9, rd_9, rx_9, ry_9, ru_9, rv_9, bb_9⟩ : Blk w9 (w.heap.size) 24 [.slice Aa na ca, .int .i64 Na] ∧ Blk w9 (w.heap.size + 1) 24 [.slice Ab nb cb, .int .i64 Nb] ∧ Blk w9 (w4.heap.size) 24 [.slice Ac mc cc, .int .i64 ((xc.length : Nat) : Int)] ∧ Blk w9 (w5.heap.size) 24 [.slice Ad md cd, .int .i64 ((xd.length : Nat) : Int)] ∧ Blk w9 (w6.heap.size) 24 [.slice Ax mx cx, .int .i64 ((xx.length : Nat) : Int)] ∧ Blk w9 (w7.heap.size) 24 [.slice Ay my cy, .int .i64 ((xy.length : Nat) : Int)] ∧ Blk w9 (w8.heap.size) 24 [.slice Au mu cu, .int .i64 ((xu.length : Nat) : Int)] ∧ RowIn .u8 w9 (0) (w.heap.size) Aa na xsa ∧ RowIn .u8 w9 (0) (w.heap.size) Ab nb xsb ∧ RowIn .u8 w9 (0) (w.heap.size) Ar nr xsr ∧ RowIn .u8 w9 (w3.heap.size + 0) (w4.heap.size) Ac mc (pack xc) ∧ RowIn .u8 w9 (w4.heap.size + 1) (w5.heap.size) Ad md (pack xd) ∧ RowIn .u8 w9 (w5.heap.size + 1) (w6.heap.size) Ax mx (pack xx) ∧ RowIn .u8 w9 (w6.heap.size + 1) (w7.heap.size) Ay my (pack xy) ∧ RowIn .u8 w9 (w7.heap.size + 1) (w8.heap.size) Au mu (pack xu) ∧ RowIn .u8 w9 (w8.heap.size + 1) (w9.heap.size) Av mv (pack xv) ∧ Below w.heap.size w w9 := by
      refine ⟨?_, ?_, ?_, ?_, ?_, ?_, ?_, ?_, ?_, ?_, ?_, ?_, ?_, ?_, ?_, ?_, ?_⟩
      all_goals repeat' (first | (with_reducible assumption) | (with_reducible exact Below.refl _ _) | (with_reducible refine Blk.after ?_ b9) | (with_reducible refine RowIn.belowS ?_ b9) | (with_reducible refine Below.after ?_ b9 ?_) | (with_reducible refine Blk.drewN ?_ _) | (with_reducible refine RowIn.drewN ?_ _) | (with_reducible refine below_drewN ?_ _) | (with_reducible refine Blk.drew ?_) | (with_reducible refine RowIn.drew ?_) | (with_reducible refine Below.drew ?_) | (with_reducible refine Blk.new' ?_ ?_ <;> first | (with_reducible rfl) | (simp; done)) | (with_reducible refine Blk.alloc ?_ _) | (with_reducible refine RowIn.alloc ?_ _) | (with_reducible refine Below.alloc ?_ ?_ _) | (with_reducible apply Blk.set') | (with_reducible refine Blk.far' ?_ ?_ _) | (with_reducible refine RowIn.far' ?_ ?_ _) | (with_reducible refine Below.far' ?_ ?_ _) | rfl | omega | go_size)
    clear za_8 zb_8 zc_8 zd_8 zx_8 zy_8 ra_8 rb_8 rr_8 rc_8 rd_8 rx_8 ry_8 ru_8 bb_8 ka_8 fa_8 la_8 kb_8 fb_8 lb_8 kc_8 fc_8 lc_8 kd_8 fd_8 ld_8 kx_8 fx_8 lx_8 ky_8 fy_8 ly_8 b9
    have ka_9 := za_9.cell; have fa_9 := za_9.frozen; have la_9 := za_9.lt
    have kb_9 := zb_9.cell; have fb_9 := zb_9.frozen; have lb_9 := zb_9.lt
    have kc_9 := zc_9.cell; have fc_9 := zc_9.frozen; have lc_9 := zc_9.lt
    have kd_9 := zd_9.cell; have fd_9 := zd_9.frozen; have ld_9 := zd_9.lt
    have kx_9 := zx_9.cell; have fx_9 := zx_9.frozen; have lx_9 := zx_9.lt
    have ky_9 := zy_9.cell; have fy_9 := zy_9.frozen; have ly_9 := zy_9.lt
    have ku_9 := zu_9.cell; have fu_9 := zu_9.frozen; have lu_9 := zu_9.lt
    clear rv
    go_wp2_with fail
    refine (balign_bad Aa na ca Na xsa _ (by exact (ra_9.row.alloc _)) hxa hca hva).mono ?_
    rintro e w10 ⟨As, ms, cs, xs, rfl, hcs, rs, HXs, b10⟩
    replace rs := rs.mono (lo' := w9.heap.size + 1) (by go_size) (Nat.le_refl _)
    have s10 := b10.size
    try simp only [World.size_alloc, World.size_setCell, World.size_drew, size_drewN] at s10
    obtain ⟨za_10, zb_10, zc_10, zd_10, zx_10, zy_10, zu_10, zv_10, ra_10, rb_10, rr_10, rc_10, rd_10, rx_10, ry_10, ru_10, rv_10, rs_10, bb_10⟩ : Blk w10 (w.heap.size) 24 [.slice Aa na ca, .int .i64 Na] ∧ Blk w10 (w.heap.size + 1) 24 [.slice Ab nb cb, .int .i64 Nb] ∧ Blk w10 (w4.heap.size) 24 [.slice Ac mc cc, .int .i64 ((xc.length : Nat) : Int)] ∧ Blk w10 (w5.heap.size) 24 [.slice Ad md cd, .int .i64 ((xd.length : Nat) : Int)] ∧ Blk w10 (w6.heap.size) 24 [.slice Ax mx cx, .int .i64 ((xx.length : Nat) : Int)] ∧ Blk w10 (w7.heap.size) 24 [.slice Ay my cy, .int .i64 ((xy.length : Nat) : Int)] ∧ Blk w10 (w8.heap.size) 24 [.slice Au mu cu, .int .i64 ((xu.length : Nat) : Int)] ∧ Blk w10 (w9.heap.size) 24 [.slice Av mv cv, .int .i64 ((xv.length : Nat) : Int)] ∧ RowIn .u8 w10 (0) (w.heap.size) Aa na xsa ∧ RowIn .u8 w10 (0) (w.heap.size) Ab nb xsb ∧ RowIn .u8 w10 (0) (w.heap.size) Ar nr xsr ∧ RowIn .u8 w10 (w3.heap.size + 0) (w4.heap.size) Ac mc (pack xc) ∧ RowIn .u8 w10 (w4.heap.size + 1) (w5.heap.size) Ad md (pack xd) ∧ RowIn .u8 w10 (w5.heap.size + 1) (w6.heap.size) Ax mx (pack xx) ∧ RowIn .u8 w10 (w6.heap.size + 1) (w7.heap.size) Ay my (pack xy) ∧ RowIn .u8 w10 (w7.heap.size + 1) (w8.heap.size) Au mu (pack xu) ∧ RowIn .u8 w10 (w8.heap.size + 1) (w9.heap.size) Av mv (pack xv) ∧ RowIn .u8 w10 (w9.heap.size + 1) (w10.heap.size) As ms (pack xs) ∧ Below w.heap.size w w10 := by
      refine ⟨?_, ?_, ?_, ?_, ?_, ?_, ?_, ?_, ?_, ?_, ?_, ?_, ?_, ?_, ?_, ?_, ?_, ?_, ?_⟩
      all_goals repeat' (first | (with_reducible assumption) | (with_reducible exact Below.refl _ _) | (with_reducible refine Blk.after ?_ b10) | (with_reducible refine RowIn.belowS ?_ b10) | (with_reducible refine Below.after ?_ b10 ?_) | (with_reducible refine Blk.drewN ?_ _) | (with_reducible refine RowIn.drewN ?_ _) | (with_reducible refine below_drewN ?_ _) | (with_reducible refine Blk.drew ?_) | (with_reducible refine RowIn.drew ?_) | (with_reducible refine Below.drew ?_) | (with_reducible refine Blk.new' ?_ ?_ <;> first | (with_reducible rfl) | (simp; done)) | (with_reducible refine Blk.alloc ?_ _) | (with_reducible refine RowIn.alloc ?_ _) | (with_reducible refine Below.alloc ?_ ?_ _) | (with_reducible apply Blk.set') | (with_reducible refine Blk.far' ?_ ?_ _) | (with_reducible refine RowIn.far' ?_ ?_ _) | (with_reducible refine Below.far' ?_ ?_ _) | rfl | omega | go_size)
    clear za_9 zb_9 zc_9 zd_9 zx_9 zy_9 zu_9 ra_9 rb_9 rr_9 rc_9 rd_9 rx_9 ry_9 ru_9 rv_9 bb_9 ka_9 fa_9 la_9 kb_9 fb_9 lb_9 kc_9 fc_9 lc_9 kd_9 fd_9 ld_9 kx_9 fx_9 lx_9 ky_9 fy_9 ly_9 ku_9 fu_9 lu_9 b10
    have ka_10 := za_10.cell; have fa_10 := za_10.frozen; have la_10 := za_10.lt
    have kb_10 := zb_10.cell; have fb_10 := zb_10.frozen; have lb_10 := zb_10.lt
    have kc_10 := zc_10.cell; have fc_10 := zc_10.frozen; have lc_10 := zc_10.lt
    have kd_10 := zd_10.cell; have fd_10 := zd_10.frozen; have ld_10 := zd_10.lt
    have kx_10 := zx_10.cell; have fx_10 := zx_10.frozen; have lx_10 := zx_10.lt
    have ky_10 := zy_10.cell; have fy_10 := zy_10.frozen; have ly_10 := zy_10.lt
    have ku_10 := zu_10.cell; have fu_10 := zu_10.frozen; have lu_10 := zu_10.lt
    have kv_10 := zv_10.cell; have fv_10 := zv_10.frozen; have lv_10 := zv_10.lt
    clear rs
    go_wp2_with fail
    refine (ralign_bad Aa na ca Na xsa _ (by exact (ra_10.row.alloc _)) hxa hca hva).mono ?_
    rintro e w11 ⟨At, mt, ct, xt, rfl, hct, rt, HXt, b11⟩
    replace rt := rt.mono (lo' := w10.heap.size + 1) (by go_size) (Nat.le_refl _)
    have s11 := b11.size
    try simp only [World.size_alloc, World.size_setCell, World.size_drew, size_drewN] at s11
    obtain ⟨za_11, zb_11, zc_11, zd_11, zx_11, zy_11, zu_11, zv_11, zs_11, ra_11, rb_11, rr_11, rc_11, rd_11, rx_11, ry_11, ru_11, rv_11, rs_11, rt_11, bb_11⟩ : Blk w11 (w.heap.size) 24 [.slice Aa na ca, .int .i64 Na] ∧ Blk w11 (w.heap.size + 1) 24 [.slice Ab nb cb, .int .i64 Nb] ∧ Blk w11 (w4.heap.size) 24 [.slice Ac mc cc, .int .i64 ((xc.length : Nat) : Int)] ∧ Blk w11 (w5.heap.size) 24 [.slice Ad md cd, .int .i64 ((xd.length : Nat) : Int)] ∧ Blk w11 (w6.heap.size) 24 [.slice Ax mx cx, .int .i64 ((xx.length : Nat) : Int)] ∧ Blk w11 (w7.heap.size) 24 [.slice Ay my cy, .int .i64 ((xy.length : Nat) : Int)] ∧ Blk w11 (w8.heap.size) 24 [.slice Au mu cu, .int .i64 ((xu.length : Nat) : Int)] ∧ Blk w11 (w9.heap.size) 24 [.slice Av mv cv, .int .i64 ((xv.length : Nat) : Int)] ∧ Blk w11 (w10.heap.size) 24 [.slice As ms cs, .int .i64 ((xs.length : Nat) : Int)] ∧ RowIn .u8 w11 (0) (w.heap.size) Aa na xsa ∧ RowIn .u8 w11 (0) (w.heap.size) Ab nb xsb ∧ RowIn .u8 w11 (0) (w.heap.size) Ar nr xsr ∧ RowIn .u8 w11 (w3.heap.size + 0) (w4.heap.size) Ac mc (pack xc) ∧ RowIn .u8 w11 (w4.heap.size + 1) (w5.heap.size) Ad md (pack xd) ∧ RowIn .u8 w11 (w5.heap.size + 1) (w6.heap.size) Ax mx (pack xx) ∧ RowIn .u8 w11 (w6.heap.size + 1) (w7.heap.size) Ay my (pack xy) ∧ RowIn .u8 w11 (w7.heap.size + 1) (w8.heap.size) Au mu (pack xu) ∧ RowIn .u8 w11 (w8.heap.size + 1) (w9.heap.size) Av mv (pack xv) ∧ RowIn .u8 w11 (w9.heap.size + 1) (w10.heap.size) As ms (pack xs) ∧ RowIn .u8 w11 (w10.heap.size + 1) (w11.heap.size) At mt (pack xt) ∧ Below w.heap.size w w11 := by
      refine ⟨?_, ?_, ?_, ?_, ?_, ?_, ?_, ?_, ?_, ?_, ?_, ?_, ?_, ?_, ?_, ?_, ?_, ?_, ?_, ?_, ?_⟩
      all_goals repeat' (first | (with_reducible assumption) | (with_reducible exact Below.refl _ _) | (with_reducible refine Blk.after ?_ b11) | (with_reducible refine RowIn.belowS ?_ b11) | (with_reducible refine Below.after ?_ b11 ?_) | (with_reducible refine Blk.drewN ?_ _) | (with_reducible refine RowIn.drewN ?_ _) | (with_reducible refine below_drewN ?_ _) | (with_reducible refine Blk.drew ?_) | (with_reducible refine RowIn.drew ?_) | (with_reducible refine Below.drew ?_) | (with_reducible refine Blk.new' ?_ ?_ <;> first | (with_reducible rfl) | (simp; done)) | (with_reducible refine Blk.alloc ?_ _) | (with_reducible refine RowIn.alloc ?_ _) | (with_reducible refine Below.alloc ?_ ?_ _) | (with_reducible apply Blk.set') | (with_reducible refine Blk.far' ?_ ?_ _) | (with_reducible refine RowIn.far' ?_ ?_ _) | (with_reducible refine Below.far' ?_ ?_ _) | rfl | omega | go_size)
    clear za_10 zb_10 zc_10 zd_10 zx_10 zy_10 zu_10 zv_10 ra_10 rb_10 rr_10 rc_10 rd_10 rx_10 ry_10 ru_10 rv_10 rs_10 bb_10 ka_10 fa_10 la_10 kb_10 fb_10 lb_10 kc_10 fc_10 lc_10 kd_10 fd_10 ld_10 kx_10 fx_10 lx_10 ky_10 fy_10 ly_10 ku_10 fu_10 lu_10 kv_10 fv_10 lv_10 b11
    have ka_11 := za_11.cell; have fa_11 := za_11.frozen; have la_11 := za_11.lt
    have kb_11 := zb_11.cell; have fb_11 := zb_11.frozen; have lb_11 := zb_11.lt
    have kc_11 := zc_11.cell; have fc_11 := zc_11.frozen; have lc_11 := zc_11.lt
    have kd_11 := zd_11.cell; have fd_11 := zd_11.frozen; have ld_11 := zd_11.lt
    have kx_11 := zx_11.cell; have fx_11 := zx_11.frozen; have lx_11 := zx_11.lt
    have ky_11 := zy_11.cell; have fy_11 := zy_11.frozen; have ly_11 := zy_11.lt
    have ku_11 := zu_11.cell; have fu_11 := zu_11.frozen; have lu_11 := zu_11.lt
    have kv_11 := zv_11.cell; have fv_11 := zv_11.frozen; have lv_11 := zv_11.lt
    have ks_11 := zs_11.cell; have fs_11 := zs_11.frozen; have ls_11 := zs_11.lt
    clear rt
    have HEc : Hid (xc = xd) := by rw [HXc.out, HXd.out]; exact Lib.hid rfl
    go_wp2_with fail
    refine (rsame_bits Ac Ad mc md cc cd xc xd _ (by exact (rc_11.row.alloc _)) (by exact (rd_11.row.alloc _)) HEc.out).mono ?_
    rintro e w12 ⟨rfl, b12⟩
    have s12 := b12.size
    try simp only [World.size_alloc, World.size_setCell, World.size_drew, size_drewN] at s12
    obtain ⟨za_12, zb_12, zc_12, zd_12, zx_12, zy_12, zu_12, zv_12, zs_12, zt_12, ra_12, rb_12, rr_12, rc_12, rd_12, rx_12, ry_12, ru_12, rv_12, rs_12, rt_12, bb_12⟩ : Blk w12 (w.heap.size) 24 [.slice Aa na ca, .int .i64 Na] ∧ Blk w12 (w.heap.size + 1) 24 [.slice Ab nb cb, .int .i64 Nb] ∧ Blk w12 (w4.heap.size) 24 [.slice Ac mc cc, .int .i64 ((xc.length : Nat) : Int)] ∧ Blk w12 (w5.heap.size) 24 [.slice Ad md cd, .int .i64 ((xd.length : Nat) : Int)] ∧ Blk w12 (w6.heap.size) 24 [.slice Ax mx cx, .int .i64 ((xx.length : Nat) : Int)] ∧ Blk w12 (w7.heap.size) 24 [.slice Ay my cy, .int .i64 ((xy.length : Nat) : Int)] ∧ Blk w12 (w8.heap.size) 24 [.slice Au mu cu, .int .i64 ((xu.length : Nat) : Int)] ∧ Blk w12 (w9.heap.size) 24 [.slice Av mv cv, .int .i64 ((xv.length : Nat) : Int)] ∧ Blk w12 (w10.heap.size) 24 [.slice As ms cs, .int .i64 ((xs.length : Nat) : Int)] ∧ Blk w12 (w11.heap.size) 24 [.slice At mt ct, .int .i64 ((xt.length : Nat) : Int)] ∧ RowIn .u8 w12 (0) (w.heap.size) Aa na xsa ∧ RowIn .u8 w12 (0) (w.heap.size) Ab nb xsb ∧ RowIn .u8 w12 (0) (w.heap.size) Ar nr xsr ∧ RowIn .u8 w12 (w3.heap.size + 0) (w4.heap.size) Ac mc (pack xc) ∧ RowIn .u8 w12 (w4.heap.size + 1) (w5.heap.size) Ad md (pack xd) ∧ RowIn .u8 w12 (w5.heap.size + 1) (w6.heap.size) Ax mx (pack xx) ∧ RowIn .u8 w12 (w6.heap.size + 1) (w7.heap.size) Ay my (pack xy) ∧ RowIn .u8 w12 (w7.heap.size + 1) (w8.heap.size) Au mu (pack xu) ∧ RowIn .u8 w12 (w8.heap.size + 1) (w9.heap.size) Av mv (pack xv) ∧ RowIn .u8 w12 (w9.heap.size + 1) (w10.heap.size) As ms (pack xs) ∧ RowIn .u8 w12 (w10.heap.size + 1) (w11.heap.size) At mt (pack xt) ∧ Below w.heap.size w w12 := by
      refine ⟨?_, ?_, ?_, ?_, ?_, ?_, ?_, ?_, ?_, ?_, ?_, ?_, ?_, ?_, ?_, ?_, ?_, ?_, ?_, ?_, ?_, ?_⟩
      all_goals repeat' (first | (with_reducible assumption) | (with_reducible exact Below.refl _ _) | (with_reducible refine Blk.after ?_ b12) | (with_reducible refine RowIn.belowS ?_ b12) | (with_reducible refine Below.after ?_ b12 ?_) | (with_reducible refine Blk.drewN ?_ _) | (with_reducible refine RowIn.drewN ?_ _) | (with_reducible refine below_drewN ?_ _) | (with_reducible refine Blk.drew ?_) | (with_reducible refine RowIn.drew ?_) | (with_reducible refine Below.drew ?_) | (with_reducible refine Blk.new' ?_ ?_ <;> first | (with_reducible rfl) | (simp; done)) | (with_reducible refine Blk.alloc ?_ _) | (with_reducible refine RowIn.alloc ?_ _) | (with_reducible refine Below.alloc ?_ ?_ _) | (with_reducible apply Blk.set') | (with_reducible refine Blk.far' ?_ ?_ _) | (with_reducible refine RowIn.far' ?_ ?_ _) | (with_reducible refine Below.far' ?_ ?_ _) | rfl | omega | go_size)
    clear za_11 zb_11 zc_11 zd_11 zx_11 zy_11 zu_11 zv_11 zs_11 ra_11 rb_11 rr_11 rc_11 rd_11 rx_11 ry_11 ru_11 rv_11 rs_11 rt_11 bb_11 ka_11 fa_11 la_11 kb_11 fb_11 lb_11 kc_11 fc_11 lc_11 kd_11 fd_11 ld_11 kx_11 fx_11 lx_11 ky_11 fy_11 ly_11 ku_11 fu_11 lu_11 kv_11 fv_11 lv_11 ks_11 fs_11 ls_11 b12
    have ka_12 := za_12.cell; have fa_12 := za_12.frozen; have la_12 := za_12.lt
    have kb_12 := zb_12.cell; have fb_12 := zb_12.frozen; have lb_12 := zb_12.lt
    have kc_12 := zc_12.cell; have fc_12 := zc_12.frozen; have lc_12 := zc_12.lt
    have kd_12 := zd_12.cell; have fd_12 := zd_12.frozen; have ld_12 := zd_12.lt
    have kx_12 := zx_12.cell; have fx_12 := zx_12.frozen; have lx_12 := zx_12.lt
    have ky_12 := zy_12.cell; have fy_12 := zy_12.frozen; have ly_12 := zy_12.lt
    have ku_12 := zu_12.cell; have fu_12 := zu_12.frozen; have lu_12 := zu_12.lt
    have kv_12 := zv_12.cell; have fv_12 := zv_12.frozen; have lv_12 := zv_12.lt
    have ks_12 := zs_12.cell; have fs_12 := zs_12.frozen; have ls_12 := zs_12.lt
    have kt_12 := zt_12.cell; have ft_12 := zt_12.frozen; have lt_12 := zt_12.lt
    have HEx : Hid (xx = xy) := by rw [HXx.out, HXy.out]; exact Lib.hid rfl
    go_wp2_with fail
    refine (rsame_bits Ax Ay mx my cx cy xx xy _ rx_12.row ry_12.row HEx.out).mono ?_
    rintro e w13 ⟨rfl, b13⟩
    have s13 := b13.size
    try simp only [World.size_alloc, World.size_setCell, World.size_drew, size_drewN] at s13
    obtain ⟨za_13, zb_13, zc_13, zd_13, zx_13, zy_13, zu_13, zv_13, zs_13, zt_13, ra_13, rb_13, rr_13, rc_13, rd_13, rx_13, ry_13, ru_13, rv_13, rs_13, rt_13, bb_13⟩ : Blk w13 (w.heap.size) 24 [.slice Aa na ca, .int .i64 Na] ∧ Blk w13 (w.heap.size + 1) 24 [.slice Ab nb cb, .int .i64 Nb] ∧ Blk w13 (w4.heap.size) 24 [.slice Ac mc cc, .int .i64 ((xc.length : Nat) : Int)] ∧ Blk w13 (w5.heap.size) 24 [.slice Ad md cd, .int .i64 ((xd.length : Nat) : Int)] ∧ Blk w13 (w6.heap.size) 24 [.slice Ax mx cx, .int .i64 ((xx.length : Nat) : Int)] ∧ Blk w13 (w7.heap.size) 24 [.slice Ay my cy, .int .i64 ((xy.length : Nat) : Int)] ∧ Blk w13 (w8.heap.size) 24 [.slice Au mu cu, .int .i64 ((xu.length : Nat) : Int)] ∧ Blk w13 (w9.heap.size) 24 [.slice Av mv cv, .int .i64 ((xv.length : Nat) : Int)] ∧ Blk w13 (w10.heap.size) 24 [.slice As ms cs, .int .i64 ((xs.length : Nat) : Int)] ∧ Blk w13 (w11.heap.size) 24 [.slice At mt ct, .int .i64 ((xt.length : Nat) : Int)] ∧ RowIn .u8 w13 (0) (w.heap.size) Aa na xsa ∧ RowIn .u8 w13 (0) (w.heap.size) Ab nb xsb ∧ RowIn .u8 w13 (0) (w.heap.size) Ar nr xsr ∧ RowIn .u8 w13 (w3.heap.size + 0) (w4.heap.size) Ac mc (pack xc) ∧ RowIn .u8 w13 (w4.heap.size + 1) (w5.heap.size) Ad md (pack xd) ∧ RowIn .u8 w13 (w5.heap.size + 1) (w6.heap.size) Ax mx (pack xx) ∧ RowIn .u8 w13 (w6.heap.size + 1) (w7.heap.size) Ay my (pack xy) ∧ RowIn .u8 w13 (w7.heap.size + 1) (w8.heap.size) Au mu (pack xu) ∧ RowIn .u8 w13 (w8.heap.size + 1) (w9.heap.size) Av mv (pack xv) ∧ RowIn .u8 w13 (w9.heap.size + 1) (w10.heap.size) As ms (pack xs) ∧ RowIn .u8 w13 (w10.heap.size + 1) (w11.heap.size) At mt (pack xt) ∧ Below w.heap.size w w13 := by
      refine ⟨?_, ?_, ?_, ?_, ?_, ?_, ?_, ?_, ?_, ?_, ?_, ?_, ?_, ?_, ?_, ?_, ?_, ?_, ?_, ?_, ?_, ?_⟩
      all_goals repeat' (first | (with_reducible assumption) | (with_reducible exact Below.refl _ _) | (with_reducible refine Blk.after ?_ b13) | (with_reducible refine RowIn.belowS ?_ b13) | (with_reducible refine Below.after ?_ b13 ?_) | (with_reducible refine Blk.drewN ?_ _) | (with_reducible refine RowIn.drewN ?_ _) | (with_reducible refine below_drewN ?_ _) | (with_reducible refine Blk.drew ?_) | (with_reducible refine RowIn.drew ?_) | (with_reducible refine Below.drew ?_) | (with_reducible refine Blk.new' ?_ ?_ <;> first | (with_reducible rfl) | (simp; done)) | (with_reducible refine Blk.alloc ?_ _) | (with_reducible refine RowIn.alloc ?_ _) | (with_reducible refine Below.alloc ?_ ?_ _) | (with_reducible apply Blk.set') | (with_reducible refine Blk.far' ?_ ?_ _) | (with_reducible refine RowIn.far' ?_ ?_ _) | (with_reducible refine Below.far' ?_ ?_ _) | rfl | omega | go_size)
    clear za_12 zb_12 zc_12 zd_12 zx_12 zy_12 zu_12 zv_12 zs_12 zt_12 ra_12 rb_12 rr_12 rc_12 rd_12 rx_12 ry_12 ru_12 rv_12 rs_12 rt_12 bb_12 ka_12 fa_12 la_12 kb_12 fb_12 lb_12 kc_12 fc_12 lc_12 kd_12 fd_12 ld_12 kx_12 fx_12 lx_12 ky_12 fy_12 ly_12 ku_12 fu_12 lu_12 kv_12 fv_12 lv_12 ks_12 fs_12 ls_12 kt_12 ft_12 lt_12 b13
    have ka_13 := za_13.cell; have fa_13 := za_13.frozen; have la_13 := za_13.lt
    have kb_13 := zb_13.cell; have fb_13 := zb_13.frozen; have lb_13 := zb_13.lt
    have kc_13 := zc_13.cell; have fc_13 := zc_13.frozen; have lc_13 := zc_13.lt
    have kd_13 := zd_13.cell; have fd_13 := zd_13.frozen; have ld_13 := zd_13.lt
    have kx_13 := zx_13.cell; have fx_13 := zx_13.frozen; have lx_13 := zx_13.lt
    have ky_13 := zy_13.cell; have fy_13 := zy_13.frozen; have ly_13 := zy_13.lt
    have ku_13 := zu_13.cell; have fu_13 := zu_13.frozen; have lu_13 := zu_13.lt
    have kv_13 := zv_13.cell; have fv_13 := zv_13.frozen; have lv_13 := zv_13.lt
    have ks_13 := zs_13.cell; have fs_13 := zs_13.frozen; have ls_13 := zs_13.lt
    have kt_13 := zt_13.cell; have ft_13 := zt_13.frozen; have lt_13 := zt_13.lt
    have HEu : Hid (xu = xv) := by rw [HXu.out, HXv.out]; exact Lib.hid rfl
    go_wp2_with fail
    refine (rsame_bits Au Av mu mv cu cv xu xv _ ru_13.row rv_13.row HEu.out).mono ?_
    rintro e w14 ⟨rfl, b14⟩
    have s14 := b14.size
    try simp only [World.size_alloc, World.size_setCell, World.size_drew, size_drewN] at s14
    obtain ⟨za_14, zb_14, zc_14, zd_14, zx_14, zy_14, zu_14, zv_14, zs_14, zt_14, ra_14, rb_14, rr_14, rc_14, rd_14, rx_14, ry_14, ru_14, rv_14, rs_14, rt_14, bb_14⟩ : Blk w14 (w.heap.size) 24 [.slice Aa na ca, .int .i64 Na] ∧ Blk w14 (w.heap.size + 1) 24 [.slice Ab nb cb, .int .i64 Nb] ∧ Blk w14 (w4.heap.size) 24 [.slice Ac mc cc, .int .i64 ((xc.length : Nat) : Int)] ∧ Blk w14 (w5.heap.size) 24 [.slice Ad md cd, .int .i64 ((xd.length : Nat) : Int)] ∧ Blk w14 (w6.heap.size) 24 [.slice Ax mx cx, .int .i64 ((xx.length : Nat) : Int)] ∧ Blk w14 (w7.heap.size) 24 [.slice Ay my cy, .int .i64 ((xy.length : Nat) : Int)] ∧ Blk w14 (w8.heap.size) 24 [.slice Au mu cu, .int .i64 ((xu.length : Nat) : Int)] ∧ Blk w14 (w9.heap.size) 24 [.slice Av mv cv, .int .i64 ((xv.length : Nat) : Int)] ∧ Blk w14 (w10.heap.size) 24 [.slice As ms cs, .int .i64 ((xs.length : Nat) : Int)] ∧ Blk w14 (w11.heap.size) 24 [.slice At mt ct, .int .i64 ((xt.length : Nat) : Int)] ∧ RowIn .u8 w14 (0) (w.heap.size) Aa na xsa ∧ RowIn .u8 w14 (0) (w.heap.size) Ab nb xsb ∧ RowIn .u8 w14 (0) (w.heap.size) Ar nr xsr ∧ RowIn .u8 w14 (w3.heap.size + 0) (w4.heap.size) Ac mc (pack xc) ∧ RowIn .u8 w14 (w4.heap.size + 1) (w5.heap.size) Ad md (pack xd) ∧ RowIn .u8 w14 (w5.heap.size + 1) (w6.heap.size) Ax mx (pack xx) ∧ RowIn .u8 w14 (w6.heap.size + 1) (w7.heap.size) Ay my (pack xy) ∧ RowIn .u8 w14 (w7.heap.size + 1) (w8.heap.size) Au mu (pack xu) ∧ RowIn .u8 w14 (w8.heap.size + 1) (w9.heap.size) Av mv (pack xv) ∧ RowIn .u8 w14 (w9.heap.size + 1) (w10.heap.size) As ms (pack xs) ∧ RowIn .u8 w14 (w10.heap.size + 1) (w11.heap.size) At mt (pack xt) ∧ Below w.heap.size w w14 := by
      refine ⟨?_, ?_, ?_, ?_, ?_, ?_, ?_, ?_, ?_, ?_, ?_, ?_, ?_, ?_, ?_, ?_, ?_, ?_, ?_, ?_, ?_, ?_⟩
      all_goals repeat' (first | (with_reducible assumption) | (with_reducible exact Below.refl _ _) | (with_reducible refine Blk.after ?_ b14) | (with_reducible refine RowIn.belowS ?_ b14) | (with_reducible refine Below.after ?_ b14 ?_) | (with_reducible refine Blk.drewN ?_ _) | (with_reducible refine RowIn.drewN ?_ _) | (with_reducible refine below_drewN ?_ _) | (with_reducible refine Blk.drew ?_) | (with_reducible refine RowIn.drew ?_) | (with_reducible refine Below.drew ?_) | (with_reducible refine Blk.new' ?_ ?_ <;> first | (with_reducible rfl) | (simp; done)) | (with_reducible refine Blk.alloc ?_ _) | (with_reducible refine RowIn.alloc ?_ _) | (with_reducible refine Below.alloc ?_ ?_ _) | (with_reducible apply Blk.set') | (with_reducible refine Blk.far' ?_ ?_ _) | (with_reducible refine RowIn.far' ?_ ?_ _) | (with_reducible refine Below.far' ?_ ?_ _) | rfl | omega | go_size)
    clear za_13 zb_13 zc_13 zd_13 zx_13 zy_13 zu_13 zv_13 zs_13 zt_13 ra_13 rb_13 rr_13 rc_13 rd_13 rx_13 ry_13 ru_13 rv_13 rs_13 rt_13 bb_13 ka_13 fa_13 la_13 kb_13 fb_13 lb_13 kc_13 fc_13 lc_13 kd_13 fd_13 ld_13 kx_13 fx_13 lx_13 ky_13 fy_13 ly_13 ku_13 fu_13 lu_13 kv_13 fv_13 lv_13 ks_13 fs_13 ls_13 kt_13 ft_13 lt_13 b14
    have ka_14 := za_14.cell; have fa_14 := za_14.frozen; have la_14 := za_14.lt
    have kb_14 := zb_14.cell; have fb_14 := zb_14.frozen; have lb_14 := zb_14.lt
    have kc_14 := zc_14.cell; have fc_14 := zc_14.frozen; have lc_14 := zc_14.lt
    have kd_14 := zd_14.cell; have fd_14 := zd_14.frozen; have ld_14 := zd_14.lt
    have kx_14 := zx_14.cell; have fx_14 := zx_14.frozen; have lx_14 := zx_14.lt
    have ky_14 := zy_14.cell; have fy_14 := zy_14.frozen; have ly_14 := zy_14.lt
    have ku_14 := zu_14.cell; have fu_14 := zu_14.frozen; have lu_14 := zu_14.lt
    have kv_14 := zv_14.cell; have fv_14 := zv_14.frozen; have lv_14 := zv_14.lt
    have ks_14 := zs_14.cell; have fs_14 := zs_14.frozen; have ls_14 := zs_14.lt
    have kt_14 := zt_14.cell; have ft_14 := zt_14.frozen; have lt_14 := zt_14.lt
    have HEs : Hid (xs = xt) := by rw [HXs.out, HXt.out]; exact Lib.hid rfl
    go_wp2_with fail
    refine (rsame_bits As At ms mt cs ct xs xt _ rs_14.row rt_14.row HEs.out).mono ?_
    rintro e w15 ⟨rfl, b15⟩
    have s15 := b15.size
    try simp only [World.size_alloc, World.size_setCell, World.size_drew, size_drewN] at s15
    obtain ⟨za_15, zb_15, zc_15, zd_15, zx_15, zy_15, zu_15, zv_15, zs_15, zt_15, ra_15, rb_15, rr_15, rc_15, rd_15, rx_15, ry_15, ru_15, rv_15, rs_15, rt_15, bb_15⟩ : Blk w15 (w.heap.size) 24 [.slice Aa na ca, .int .i64 Na] ∧ Blk w15 (w.heap.size + 1) 24 [.slice Ab nb cb, .int .i64 Nb] ∧ Blk w15 (w4.heap.size) 24 [.slice Ac mc cc, .int .i64 ((xc.length : Nat) : Int)] ∧ Blk w15 (w5.heap.size) 24 [.slice Ad md cd, .int .i64 ((xd.length : Nat) : Int)] ∧ Blk w15 (w6.heap.size) 24 [.slice Ax mx cx, .int .i64 ((xx.length : Nat) : Int)] ∧ Blk w15 (w7.heap.size) 24 [.slice Ay my cy, .int .i64 ((xy.length : Nat) : Int)] ∧ Blk w15 (w8.heap.size) 24 [.slice Au mu cu, .int .i64 ((xu.length : Nat) : Int)] ∧ Blk w15 (w9.heap.size) 24 [.slice Av mv cv, .int .i64 ((xv.length : Nat) : Int)] ∧ Blk w15 (w10.heap.size) 24 [.slice As ms cs, .int .i64 ((xs.length : Nat) : Int)] ∧ Blk w15 (w11.heap.size) 24 [.slice At mt ct, .int .i64 ((xt.length : Nat) : Int)] ∧ RowIn .u8 w15 (0) (w.heap.size) Aa na xsa ∧ RowIn .u8 w15 (0) (w.heap.size) Ab nb xsb ∧ RowIn .u8 w15 (0) (w.heap.size) Ar nr xsr ∧ RowIn .u8 w15 (w3.heap.size + 0) (w4.heap.size) Ac mc (pack xc) ∧ RowIn .u8 w15 (w4.heap.size + 1) (w5.heap.size) Ad md (pack xd) ∧ RowIn .u8 w15 (w5.heap.size + 1) (w6.heap.size) Ax mx (pack xx) ∧ RowIn .u8 w15 (w6.heap.size + 1) (w7.heap.size) Ay my (pack xy) ∧ RowIn .u8 w15 (w7.heap.size + 1) (w8.heap.size) Au mu (pack xu) ∧ RowIn .u8 w15 (w8.heap.size + 1) (w9.heap.size) Av mv (pack xv) ∧ RowIn .u8 w15 (w9.heap.size + 1) (w10.heap.size) As ms (pack xs) ∧ RowIn .u8 w15 (w10.heap.size + 1) (w11.heap.size) At mt (pack xt) ∧ Below w.heap.size w w15 := by
      refine ⟨?_, ?_, ?_, ?_, ?_, ?_, ?_, ?_, ?_, ?_, ?_, ?_, ?_, ?_, ?_, ?_, ?_, ?_, ?_, ?_, ?_, ?_⟩
      all_goals repeat' (first | (with_reducible assumption) | (with_reducible exact Below.refl _ _) | (with_reducible refine Blk.after ?_ b15) | (with_reducible refine RowIn.belowS ?_ b15) | (with_reducible refine Below.after ?_ b15 ?_) | (with_reducible refine Blk.drewN ?_ _) | (with_reducible refine RowIn.drewN ?_ _) | (with_reducible refine below_drewN ?_ _) | (with_reducible refine Blk.drew ?_) | (with_reducible refine RowIn.drew ?_) | (with_reducible refine Below.drew ?_) | (with_reducible refine Blk.new' ?_ ?_ <;> first | (with_reducible rfl) | (simp; done)) | (with_reducible refine Blk.alloc ?_ _) | (with_reducible refine RowIn.alloc ?_ _) | (with_reducible refine Below.alloc ?_ ?_ _) | (with_reducible apply Blk.set') | (with_reducible refine Blk.far' ?_ ?_ _) | (with_reducible refine RowIn.far' ?_ ?_ _) | (with_reducible refine Below.far' ?_ ?_ _) | rfl | omega | go_size)
    clear za_14 zb_14 zc_14 zd_14 zx_14 zy_14 zu_14 zv_14 zs_14 zt_14 ra_14 rb_14 rr_14 rc_14 rd_14 rx_14 ry_14 ru_14 rv_14 rs_14 rt_14 bb_14 ka_14 fa_14 la_14 kb_14 fb_14 lb_14 kc_14 fc_14 lc_14 kd_14 fd_14 ld_14 kx_14 fx_14 lx_14 ky_14 fy_14 ly_14 ku_14 fu_14 lu_14 kv_14 fv_14 lv_14 ks_14 fs_14 ls_14 kt_14 ft_14 lt_14 b15
    have ka_15 := za_15.cell; have fa_15 := za_15.frozen; have la_15 := za_15.lt
    have kb_15 := zb_15.cell; have fb_15 := zb_15.frozen; have lb_15 := zb_15.lt
    have kc_15 := zc_15.cell; have fc_15 := zc_15.frozen; have lc_15 := zc_15.lt
    have kd_15 := zd_15.cell; have fd_15 := zd_15.frozen; have ld_15 := zd_15.lt
    have kx_15 := zx_15.cell; have fx_15 := zx_15.frozen; have lx_15 := zx_15.lt
    have ky_15 := zy_15.cell; have fy_15 := zy_15.frozen; have ly_15 := zy_15.lt
    have ku_15 := zu_15.cell; have fu_15 := zu_15.frozen; have lu_15 := zu_15.lt
    have kv_15 := zv_15.cell; have fv_15 := zv_15.frozen; have lv_15 := zv_15.lt
    have ks_15 := zs_15.cell; have fs_15 := zs_15.frozen; have ls_15 := zs_15.lt
    have kt_15 := zt_15.cell; have ft_15 := zt_15.frozen; have lt_15 := zt_15.lt
    go_wp2
    go_ret
    refine ⟨rfl, ?_⟩
    repeat' (first | (with_reducible assumption) | (with_reducible exact Below.refl _ _) | (with_reducible refine Blk.drewN ?_ _) | (with_reducible refine RowIn.drewN ?_ _) | (with_reducible refine below_drewN ?_ _) | (with_reducible refine Blk.drew ?_) | (with_reducible refine RowIn.drew ?_) | (with_reducible refine Below.drew ?_) | (with_reducible refine Blk.new' ?_ ?_ <;> first | (with_reducible rfl) | (simp; done)) | (with_reducible refine Blk.alloc ?_ _) | (with_reducible refine RowIn.alloc ?_ _) | (with_reducible refine Below.alloc ?_ ?_ _) | (with_reducible apply Blk.set') | (with_reducible refine Blk.far' ?_ ?_ _) | (with_reducible refine RowIn.far' ?_ ?_ _) | (with_reducible refine Below.far' ?_ ?_ _) | rfl | omega | go_size)
  obtain ⟨xa, rfl, rfl, hla⟩ := valid_bits hxa (Decidable.not_not.1 hva)
  clear hva
  by_cases hvb : ¬ Valid xsb Nb
  · have hvj : ¬ (Valid (pack xa) ((xa.length : Nat) : Int) ∧ Valid xsb Nb) := fun h => hvb h.2
    go_enter Try.func5, Try.ntmps5
    go_wp2_with fail
    refine (rgreat_no Aa na ca _ _ hga).mono ?_
    rintro e w1 ⟨rfl, b1⟩
    have s1 := b1.size
    try simp only [World.size_alloc, World.size_setCell, World.size_drew, size_drewN] at s1
    obtain ⟨za_1, zb_1, ra_1, rb_1, rr_1, bb_1⟩ : Blk w1 (w.heap.size) 24 [.slice Aa na ca, .int .i64 ((xa.length : Nat) : Int)] ∧ Blk w1 (w.heap.size + 1) 24 [.slice Ab nb cb, .int .i64 Nb] ∧ RowIn .u8 w1 (0) (w.heap.size) Aa na (pack xa) ∧ RowIn .u8 w1 (0) (w.heap.size) Ab nb xsb ∧ RowIn .u8 w1 (0) (w.heap.size) Ar nr xsr ∧ Below w.heap.size w w1 := by
      refine ⟨?_, ?_, ?_, ?_, ?_, ?_⟩
      all_goals repeat' (first | (with_reducible assumption) | (with_reducible exact Below.refl _ _) | (with_reducible refine Blk.after ?_ b1) | (with_reducible refine RowIn.belowS ?_ b1) | (with_reducible refine Below.after ?_ b1 ?_) | (with_reducible refine Blk.drewN ?_ _) | (with_reducible refine RowIn.drewN ?_ _) | (with_reducible refine below_drewN ?_ _) | (with_reducible refine Blk.drew ?_) | (with_reducible refine RowIn.drew ?_) | (with_reducible refine Below.drew ?_) | (with_reducible refine Blk.new' ?_ ?_ <;> first | (with_reducible rfl) | (simp; done)) | (with_reducible refine Blk.alloc ?_ _) | (with_reducible refine RowIn.alloc ?_ _) | (with_reducible refine Below.alloc ?_ ?_ _) | (with_reducible apply Blk.set') | (with_reducible refine Blk.far' ?_ ?_ _) | (with_reducible refine RowIn.far' ?_ ?_ _) | (with_reducible refine Below.far' ?_ ?_ _) | rfl | omega | go_size)
    clear b1
    have ka_1 := za_1.cell; have fa_1 := za_1.frozen; have la_1 := za_1.lt
    have kb_1 := zb_1.cell; have fb_1 := zb_1.frozen; have lb_1 := zb_1.lt
    go_wp2_with fail
    refine (rgreat_no Ab nb cb _ _ hgb).mono ?_
    rintro e w2 ⟨rfl, b2⟩
    have s2 := b2.size
    try simp only [World.size_alloc, World.size_setCell, World.size_drew, size_drewN] at s2
    obtain ⟨za_2, zb_2, ra_2, rb_2, rr_2, bb_2⟩ : Blk w2 (w.heap.size) 24 [.slice Aa na ca, .int .i64 ((xa.length : Nat) : Int)] ∧ Blk w2 (w.heap.size + 1) 24 [.slice Ab nb cb, .int .i64 Nb] ∧ RowIn .u8 w2 (0) (w.heap.size) Aa na (pack xa) ∧ RowIn .u8 w2 (0) (w.heap.size) Ab nb xsb ∧ RowIn .u8 w2 (0) (w.heap.size) Ar nr xsr ∧ Below w.heap.size w w2 := by
      refine ⟨?_, ?_, ?_, ?_, ?_, ?_⟩
      all_goals repeat' (first | (with_reducible assumption) | (with_reducible exact Below.refl _ _) | (with_reducible refine Blk.after ?_ b2) | (with_reducible refine RowIn.belowS ?_ b2) | (with_reducible refine Below.after ?_ b2 ?_) | (with_reducible refine Blk.drewN ?_ _) | (with_reducible refine RowIn.drewN ?_ _) | (with_reducible refine below_drewN ?_ _) | (with_reducible refine Blk.drew ?_) | (with_reducible refine RowIn.drew ?_) | (with_reducible refine Below.drew ?_) | (with_reducible refine Blk.new' ?_ ?_ <;> first | (with_reducible rfl) | (simp; done)) | (with_reducible refine Blk.alloc ?_ _) | (with_reducible refine RowIn.alloc ?_ _) | (with_reducible refine Below.alloc ?_ ?_ _) | (with_reducible apply Blk.set') | (with_reducible refine Blk.far' ?_ ?_ _) | (with_reducible refine RowIn.far' ?_ ?_ _) | (with_reducible refine Below.far' ?_ ?_ _) | rfl | omega | go_size)
    clear za_1 zb_1 ra_1 rb_1 rr_1 bb_1 ka_1 fa_1 la_1 kb_1 fb_1 lb_1 b2
    have ka_2 := za_2.cell; have fa_2 := za_2.frozen; have la_2 := za_2.lt
    have kb_2 := zb_2.cell; have fb_2 := zb_2.frozen; have lb_2 := zb_2.lt
    go_wp2_with fail
    refine (rgreat_no Ar nr cr _ _ hgr).mono ?_
    rintro e w3 ⟨rfl, b3⟩
    have s3 := b3.size
    try simp only [World.size_alloc, World.size_setCell, World.size_drew, size_drewN] at s3
    obtain ⟨za_3, zb_3, ra_3, rb_3, rr_3, bb_3⟩ : Blk w3 (w.heap.size) 24 [.slice Aa na ca, .int .i64 ((xa.length : Nat) : Int)] ∧ Blk w3 (w.heap.size + 1) 24 [.slice Ab nb cb, .int .i64 Nb] ∧ RowIn .u8 w3 (0) (w.heap.size) Aa na (pack xa) ∧ RowIn .u8 w3 (0) (w.heap.size) Ab nb xsb ∧ RowIn .u8 w3 (0) (w.heap.size) Ar nr xsr ∧ Below w.heap.size w w3 := by
      refine ⟨?_, ?_, ?_, ?_, ?_, ?_⟩
      all_goals repeat' (first | (with_reducible assumption) | (with_reducible exact Below.refl _ _) | (with_reducible refine Blk.after ?_ b3) | (with_reducible refine RowIn.belowS ?_ b3) | (with_reducible refine Below.after ?_ b3 ?_) | (with_reducible refine Blk.drewN ?_ _) | (with_reducible refine RowIn.drewN ?_ _) | (with_reducible refine below_drewN ?_ _) | (with_reducible refine Blk.drew ?_) | (with_reducible refine RowIn.drew ?_) | (with_reducible refine Below.drew ?_) | (with_reducible refine Blk.new' ?_ ?_ <;> first | (with_reducible rfl) | (simp; done)) | (with_reducible refine Blk.alloc ?_ _) | (with_reducible refine RowIn.alloc ?_ _) | (with_reducible refine Below.alloc ?_ ?_ _) | (with_reducible apply Blk.set') | (with_reducible refine Blk.far' ?_ ?_ _) | (with_reducible refine RowIn.far' ?_ ?_ _) | (with_reducible refine Below.far' ?_ ?_ _) | rfl | omega | go_size)
    clear za_2 zb_2 ra_2 rb_2 rr_2 bb_2 ka_2 fa_2 la_2 kb_2 fb_2 lb_2 b3
    have ka_3 := za_3.cell; have fa_3 := za_3.frozen; have la_3 := za_3.lt
    have kb_3 := zb_3.cell; have fb_3 := zb_3.frozen; have lb_3 := zb_3.lt
    go_wp2_with fail
    refine (bjoin_bad Aa Ab na ca nb cb ((xa.length : Nat) : Int) Nb (pack xa) xsb _ ra_3.row rb_3.row hxa hxb hca hcb hvj).mono ?_
    rintro e w4 ⟨Ac, mc, cc, xc, rfl, hcc, rc, HXc, b4⟩
    replace rc := rc.mono (lo' := w3.heap.size + 0) (by go_size) (Nat.le_refl _)
    have s4 := b4.size
    try simp only [World.size_alloc, World.size_setCell, World.size_drew, size_drewN] at s4
    obtain ⟨za_4, zb_4, ra_4, rb_4, rr_4, rc_4, bb_4⟩ : Blk w4 (w.heap.size) 24 [.slice Aa na ca, .int .i64 ((xa.length : Nat) : Int)] ∧ Blk w4 (w.heap.size + 1) 24 [.slice Ab nb cb, .int .i64 Nb] ∧ RowIn .u8 w4 (0) (w.heap.size) Aa na (pack xa) ∧ RowIn .u8 w4 (0) (w.heap.size) Ab nb xsb ∧ RowIn .u8 w4 (0) (w.heap.size) Ar nr xsr ∧ RowIn .u8 w4 (w3.heap.size + 0) (w4.heap.size) Ac mc (pack xc) ∧ Below w.heap.size w w4 := by
      refine ⟨?_, ?_, ?_, ?_, ?_, ?_, ?_⟩
      all_goals repeat' (first | (with_reducible assumption) | (with_reducible exact Below.refl _ _) | (with_reducible refine Blk.after ?_ b4) | (with_reducible refine RowIn.belowS ?_ b4) | (with_reducible refine Below.after ?_ b4 ?_) | (with_reducible refine Blk.drewN ?_ _) | (with_reducible refine RowIn.drewN ?_ _) | (with_reducible refine below_drewN ?_ _) | (with_reducible refine Blk.drew ?_) | (with_reducible refine RowIn.drew ?_) | (with_reducible refine Below.drew ?_) | (with_reducible refine Blk.new' ?_ ?_ <;> first | (with_reducible rfl) | (simp; done)) | (with_reducible refine Blk.alloc ?_ _) | (with_reducible refine RowIn.alloc ?_ _) | (with_reducible refine Below.alloc ?_ ?_ _) | (with_reducible apply Blk.set') | (with_reducible refine Blk.far' ?_ ?_ _) | (with_reducible refine RowIn.far' ?_ ?_ _) | (with_reducible refine Below.far' ?_ ?_ _) | rfl | omega | go_size)
    clear za_3 zb_3 ra_3 rb_3 rr_3 bb_3 ka_3 fa_3 la_3 kb_3 fb_3 lb_3 b4
    have ka_4 := za_4.cell; have fa_4 := za_4.frozen; have la_4 := za_4.lt
    have kb_4 := zb_4.cell; have fb_4 := zb_4.frozen; have lb_4 := zb_4.lt
    clear rc
    go_wp2_with fail
    refine (rjoin_bad Aa Ab na ca nb cb ((xa.length : Nat) : Int) Nb (pack xa) xsb _ (by exact (ra_4.row.alloc _)) (by exact (rb_4.row.alloc _)) hxa hxb hca hcb hvj).mono ?_
    rintro e w5 ⟨Ad, md, cd, xd, rfl, hcd, rd, HXd, b5⟩
    replace rd := rd.mono (lo' := w4.heap.size + 1) (by go_size) (Nat.le_refl _)
    have s5 := b5.size
    try simp only [World.size_alloc, World.size_setCell, World.size_drew, size_drewN] at s5
    obtain ⟨za_5, zb_5, zc_5, ra_5, rb_5, rr_5, rc_5, rd_5, bb_5⟩ : Blk w5 (w.heap.size) 24 [.slice Aa na ca, .int .i64 ((xa.length : Nat) : Int)] ∧ Blk w5 (w.heap.size + 1) 24 [.slice Ab nb cb, .int .i64 Nb] ∧ Blk w5 (w4.heap.size) 24 [.slice Ac mc cc, .int .i64 ((xc.length : Nat) : Int)] ∧ RowIn .u8 w5 (0) (w.heap.size) Aa na (pack xa) ∧ RowIn .u8 w5 (0) (w.heap.size) Ab nb xsb ∧ RowIn .u8 w5 (0) (w.heap.size) Ar nr xsr ∧ RowIn .u8 w5 (w3.heap.size + 0) (w4.heap.size) Ac mc (pack xc) ∧ RowIn .u8 w5 (w4.heap.size + 1) (w5.heap.size) Ad md (pack xd) ∧ Below w.heap.size w w5 := by
      refine ⟨?_, ?_, ?_, ?_, ?_, ?_, ?_, ?_, ?_⟩
      all_goals repeat' (first | (with_reducible assumption) | (with_reducible exact Below.refl _ _) | (with_reducible refine Blk.after ?_ b5) | (with_reducible refine RowIn.belowS ?_ b5) | (with_reducible refine Below.after ?_ b5 ?_) | (with_reducible refine Blk.drewN ?_ _) | (with_reducible refine RowIn.drewN ?_ _) | (with_reducible refine below_drewN ?_ _) | (with_reducible refine Blk.drew ?_) | (with_reducible refine RowIn.drew ?_) | (with_reducible refine Below.drew ?_) | (with_reducible refine Blk.new' ?_ ?_ <;> first | (with_reducible rfl) | (simp; done)) | (with_reducible refine Blk.alloc ?_ _) | (with_reducible refine RowIn.alloc ?_ _) | (with_reducible refine Below.alloc ?_ ?_ _) | (with_reducible apply Blk.set') | (with_reducible refine Blk.far' ?_ ?_ _) | (with_reducible refine RowIn.far' ?_ ?_ _) | (with_reducible refine Below.far' ?_ ?_ _) | rfl | omega | go_size)
    clear za_4 zb_4 ra_4 rb_4 rr_4 rc_4 bb_4 ka_4 fa_4 la_4 kb_4 fb_4 lb_4 b5
    have ka_5 := za_5.cell; have fa_5 := za_5.frozen; have la_5 := za_5.lt
    have kb_5 := zb_5.cell; have fb_5 := zb_5.frozen; have lb_5 := zb_5.lt
    have kc_5 := zc_5.cell; have fc_5 := zc_5.frozen; have lc_5 := zc_5.lt
    clear rd
    go_wp2_with fail
    refine (bcut_ret Aa na ca xa p q _ (by exact (ra_5.row.alloc _)) hca hla).mono ?_
    rintro e w6 ⟨Ax, mx, cx, xx, rfl, hcx, rx, HXx, b6⟩
    replace rx := rx.mono (lo' := w5.heap.size + 1) (by go_size) (Nat.le_refl _)
    have s6 := b6.size
    try simp only [World.size_alloc, World.size_setCell, World.size_drew, size_drewN] at s6
    obtain ⟨za_6, zb_6, zc_6, zd_6, ra_6, rb_6, rr_6, rc_6, rd_6, rx_6, bb_6⟩ : Blk w6 (w.heap.size) 24 [.slice Aa na ca, .int .i64 ((xa.length : Nat) : Int)] ∧ Blk w6 (w.heap.size + 1) 24 [.slice Ab nb cb, .int .i64 Nb] ∧ Blk w6 (w4.heap.size) 24 [.slice Ac mc cc, .int .i64 ((xc.length : Nat) : Int)] ∧ Blk w6 (w5.heap.size) 24 [.slice Ad md cd, .int .i64 ((xd.length : Nat) : Int)] ∧ RowIn .u8 w6 (0) (w.heap.size) Aa na (pack xa) ∧ RowIn .u8 w6 (0) (w.heap.size) Ab nb xsb ∧ RowIn .u8 w6 (0) (w.heap.size) Ar nr xsr ∧ RowIn .u8 w6 (w3.heap.size + 0) (w4.heap.size) Ac mc (pack xc) ∧ RowIn .u8 w6 (w4.heap.size + 1) (w5.heap.size) Ad md (pack xd) ∧ RowIn .u8 w6 (w5.heap.size + 1) (w6.heap.size) Ax mx (pack xx) ∧ Below w.heap.size w w6 := by
      refine ⟨?_, ?_, ?_, ?_, ?_, ?_, ?_, ?_, ?_, ?_, ?_⟩
      all_goals repeat' (first | (with_reducible assumption) | (with_reducible exact Below.refl _ _) | (with_reducible refine Blk.after ?_ b6) | (with_reducible refine RowIn.belowS ?_ b6) | (with_reducible refine Below.after ?_ b6 ?_) | (with_reducible refine Blk.drewN ?_ _) | (with_reducible refine RowIn.drewN ?_ _) | (with_reducible refine below_drewN ?_ _) | (with_reducible refine Blk.drew ?_) | (with_reducible refine RowIn.drew ?_) | (with_reducible refine Below.drew ?_) | (with_reducible refine Blk.new' ?_ ?_ <;> first | (with_reducible rfl) | (simp; done)) | (with_reducible refine Blk.alloc ?_ _) | (with_reducible refine RowIn.alloc ?_ _) | (with_reducible refine Below.alloc ?_ ?_ _) | (with_reducible apply Blk.set') | (with_reducible refine Blk.far' ?_ ?_ _) | (with_reducible refine RowIn.far' ?_ ?_ _) | (with_reducible refine Below.far' ?_ ?_ _) | rfl | omega | go_size)
    clear za_5 zb_5 zc_5 ra_5 rb_5 rr_5 rc_5 rd_5 bb_5 ka_5 fa_5 la_5 kb_5 fb_5 lb_5 kc_5 fc_5 lc_5 b6
    have ka_6 := za_6.cell; have fa_6 := za_6.frozen; have la_6 := za_6.lt
    have kb_6 := zb_6.cell; have fb_6 := zb_6.frozen; have lb_6 := zb_6.lt
    have kc_6 := zc_6.cell; have fc_6 := zc_6.frozen; have lc_6 := zc_6.lt
    have kd_6 := zd_6.cell; have fd_6 := zd_6.frozen; have ld_6 := zd_6.lt
    clear rx
    go_wp2_with fail
    refine (rcut_ret Aa na ca xa p q _ (by exact (ra_6.row.alloc _)) hca hla).mono ?_
    rintro e w7 ⟨Ay, my, cy, xy, rfl, hcy, ry, HXy, b7⟩
    replace ry := ry.mono (lo' := w6.heap.size + 1) (by go_size) (Nat.le_refl _)
    have s7 := b7.size
    try simp only [World.size_alloc, World.size_setCell, World.size_drew, size_drewN] at s7
    obtain ⟨za_7, zb_7, zc_7, zd_7, zx_7, ra_7, rb_7, rr_7, rc_7, rd_7, rx_7, ry_7, bb_7⟩ : Blk w7 (w.heap.size) 24 [.slice Aa na ca, .int .i64 ((xa.length : Nat) : Int)] ∧ Blk w7 (w.heap.size + 1) 24 [.slice Ab nb cb, .int .i64 Nb] ∧ Blk w7 (w4.heap.size) 24 [.slice Ac mc cc, .int .i64 ((xc.length : Nat) : Int)] ∧ Blk w7 (w5.heap.size) 24 [.slice Ad md cd, .int .i64 ((xd.length : Nat) : Int)] ∧ Blk w7 (w6.heap.size) 24 [.slice Ax mx cx, .int .i64 ((xx.length : Nat) : Int)] ∧ RowIn .u8 w7 (0) (w.heap.size) Aa na (pack xa) ∧ RowIn .u8 w7 (0) (w.heap.size) Ab nb xsb ∧ RowIn .u8 w7 (0) (w.heap.size) Ar nr xsr ∧ RowIn .u8 w7 (w3.heap.size + 0) (w4.heap.size) Ac mc (pack xc) ∧ RowIn .u8 w7 (w4.heap.size + 1) (w5.heap.size) Ad md (pack xd) ∧ RowIn .u8 w7 (w5.heap.size + 1) (w6.heap.size) Ax mx (pack xx) ∧ RowIn .u8 w7 (w6.heap.size + 1) (w7.heap.size) Ay my (pack xy) ∧ Below w.heap.size w w7 := by
      refine ⟨?_, ?_, ?_, ?_, ?_, ?_, ?_, ?_, ?_, ?_, ?_, ?_, ?_⟩
      all_goals repeat' (first | (with_reducible assumption) | (with_reducible exact Below.refl _ _) | (with_reducible refine Blk.after ?_ b7) | (with_reducible refine RowIn.belowS ?_ b7) | (with_reducible refine Below.after ?_ b7 ?_) | (with_reducible refine Blk.drewN ?_ _) | (with_reducible refine RowIn.drewN ?_ _) | (with_reducible refine below_drewN ?_ _) | (with_reducible refine Blk.drew ?_) | (with_reducible refine RowIn.drew ?_) | (with_reducible refine Below.drew ?_) | (with_reducible refine Blk.new' ?_ ?_ <;> first | (with_reducible rfl) | (simp; done)) | (with_reducible refine Blk.alloc ?_ _) | (with_reducible refine RowIn.alloc ?_ _) | (with_reducible refine Below.alloc ?_ ?_ _) | (with_reducible apply Blk.set') | (with_reducible refine Blk.far' ?_ ?_ _) | (with_reducible refine RowIn.far' ?_ ?_ _) | (with_reducible refine Below.far' ?_ ?_ _) | rfl | omega | go_size)
    clear za_6 zb_6 zc_6 zd_6 ra_6 rb_6 rr_6 rc_6 rd_6 rx_6 bb_6 ka_6 fa_6 la_6 kb_6 fb_6 lb_6 kc_6 fc_6 lc_6 kd_6 fd_6 ld_6 b7
    have ka_7 := za_7.cell; have fa_7 := za_7.frozen; have la_7 := za_7.lt
    have kb_7 := zb_7.cell; have fb_7 := zb_7.frozen; have lb_7 := zb_7.lt
    have kc_7 := zc_7.cell; have fc_7 := zc_7.frozen; have lc_7 := zc_7.lt
    have kd_7 := zd_7.cell; have fd_7 := zd_7.frozen; have ld_7 := zd_7.lt
    have kx_7 := zx_7.cell; have fx_7 := zx_7.frozen; have lx_7 := zx_7.lt
    clear ry
    go_wp2_with fail
    refine (bof_ret Ar nr cr xsr _ (by exact (rr_7.row.alloc _)) hxr hcr).mono ?_
    rintro e w8 ⟨Au, mu, cu, xu, rfl, hcu, ru, HXu, b8⟩
    replace ru := ru.mono (lo' := w7.heap.size + 1) (by go_size) (Nat.le_refl _)
    have s8 := b8.size
    try simp only [World.size_alloc, World.size_setCell, World.size_drew, size_drewN] at s8
    obtain ⟨za_8, zb_8, zc_8, zd_8, zx_8, zy_8, ra_8, rb_8, rr_8, rc_8, rd_8, rx_8, ry_8, ru_8, bb_8⟩ : Blk w8 (w.heap.size) 24 [.slice Aa na ca, .int .i64 ((xa.length : Nat) : Int)] ∧ Blk w8 (w.heap.size + 1) 24 [.slice Ab nb cb, .int .i64 Nb] ∧ Blk w8 (w4.heap.size) 24 [.slice Ac mc cc, .int .i64 ((xc.length : Nat) : Int)] ∧ Blk w8 (w5.heap.size) 24 [.slice Ad md cd, .int .i64 ((xd.length : Nat) : Int)] ∧ Blk w8 (w6.heap.size) 24 [.slice Ax mx cx, .int .i64 ((xx.length : Nat) : Int)] ∧ Blk w8 (w7.heap.size) 24 [.slice Ay my cy, .int .i64 ((xy.length : Nat) : Int)] ∧ RowIn .u8 w8 (0) (w.heap.size) Aa na (pack xa) ∧ RowIn .u8 w8 (0) (w.heap.size) Ab nb xsb ∧ RowIn .u8 w8 (0) (w.heap.size) Ar nr xsr ∧ RowIn .u8 w8 (w3.heap.size + 0) (w4.heap.size) Ac mc (pack xc) ∧ RowIn .u8 w8 (w4.heap.size + 1) (w5.heap.size) Ad md (pack xd) ∧ RowIn .u8 w8 (w5.heap.size + 1) (w6.heap.size) Ax mx (pack xx) ∧ RowIn .u8 w8 (w6.heap.size + 1) (w7.heap.size) Ay my (pack xy) ∧ RowIn .u8 w8 (w7.heap.size + 1) (w8.heap.size) Au mu (pack xu) ∧ Below w.heap.size w w8 := by
      refine ⟨?_, ?_, ?_, ?_, ?_, ?_, ?_, ?_, ?_, ?_, ?_, ?_, ?_, ?_, ?_⟩
      all_goals repeat' (first | (with_reducible assumption) | (with_reducible exact Below.refl _ _) | (with_reducible refine Blk.after ?_ b8) | (with_reducible refine RowIn.belowS ?_ b8) | (with_reducible refine Below.after ?_ b8 ?_) | (with_reducible refine Blk.drewN ?_ _) | (with_reducible refine RowIn.drewN ?_ _) | (with_reducible refine below_drewN ?_ _) | (with_reducible refine Blk.drew ?_) | (with_reducible refine RowIn.drew ?_) | (with_reducible refine Below.drew ?_) | (with_reducible refine Blk.new' ?_ ?_ <;> first | (with_reducible rfl) | (simp; done)) | (with_reducible refine Blk.alloc ?_ _) | (with_reducible refine RowIn.alloc ?_ _) | (with_reducible refine Below.alloc ?_ ?_ _) | (with_reducible apply Blk.set') | (with_reducible refine Blk.far' ?_ ?_ _) | (with_reducible refine RowIn.far' ?_ ?_ _) | (with_reducible refine Below.far' ?_ ?_ _) | rfl | omega | go_size)
    clear za_7 zb_7 zc_7 zd_7 zx_7 ra_7 rb_7 rr_7 rc_7 rd_7 rx_7 ry_7 bb_7 ka_7 fa_7 la_7 kb_7 fb_7 lb_7 kc_7 fc_7 lc_7 kd_7 fd_7 ld_7 kx_7 fx_7 lx_7 b8
    have ka_8 := za_8.cell; have fa_8 := za_8.frozen; have la_8 := za_8.lt
    have kb_8 := zb_8.cell; have fb_8 := zb_8.frozen; have lb_8 := zb_8.lt
    have kc_8 := zc_8.cell; have fc_8 := zc_8.frozen; have lc_8 := zc_8.lt
    have kd_8 := zd_8.cell; have fd_8 := zd_8.frozen; have ld_8 := zd_8.lt
    have kx_8 := zx_8.cell; have fx_8 := zx_8.frozen; have lx_8 := zx_8.lt
    have ky_8 := zy_8.cell; have fy_8 := zy_8.frozen; have ly_8 := zy_8.lt
    clear ru
    go_wp2_with fail
    refine (rof_ret Ar nr cr xsr _ (by exact (rr_8.row.alloc _)) hxr hcr).mono ?_
    rintro e w9 ⟨Av, mv, cv, xv, rfl, hcv, rv, HXv, b9⟩
    replace rv := rv.mono (lo' := w8.heap.size + 1) (by go_size) (Nat.le_refl _)
    have s9 := b9.size
    try simp only [World.size_alloc, World.size_setCell, World.size_drew, size_drewN] at s9
    obtain ⟨za_9, zb_9, zc_9, zd_9, zx_9, zy_9, zu_9, ra_9, rb_9, rr_9, rc_9, rd_9, rx_9, ry_9, ru_9, rv_9, bb_9⟩ : Blk w9 (w.heap.size) 24 [.slice Aa na ca, .int .i64 ((xa.length : Nat) : Int)] ∧ Blk w9 (w.heap.size + 1) 24 [.slice Ab nb cb, .int .i64 Nb] ∧ Blk w9 (w4.heap.size) 24 [.slice Ac mc cc, .int .i64 ((xc.length : Nat) : Int)] ∧ Blk w9 (w5.heap.size) 24 [.slice Ad md cd, .int .i64 ((xd.length : Nat) : Int)] ∧ Blk w9 (w6.heap.size) 24 [.slice Ax mx cx, .int .i64 ((xx.length : Nat) : Int)] ∧ Blk w9 (w7.heap.size) 24 [.slice Ay my cy, .int .i64 ((xy.length : Nat) : Int)] ∧ Blk w9 (w8.heap.size) 24 [.slice Au mu cu, .int .i64 ((xu.length : Nat) : Int)] ∧ RowIn .u8 w9 (0) (w.heap.size) Aa na (pack xa) ∧ RowIn .u8 w9 (0) (w.heap.size) Ab nb xsb ∧ RowIn .u8 w9 (0) (w.heap.size) Ar nr xsr ∧ RowIn .u8 w9 (w3.heap.size + 0) (w4.heap.size) Ac mc (pack xc) ∧ RowIn .u8 w9 (w4.heap.size + 1) (w5.heap.size) Ad md (pack xd) ∧ RowIn .u8 w9 (w5.heap.size + 1) (w6.heap.size) Ax mx (pack xx) ∧ RowIn .u8 w9 (w6.heap.size + 1) (w7.heap.size) Ay my (pack xy) ∧ RowIn .u8 w9 (w7.heap.size + 1) (w8.heap.size) Au mu (pack xu) ∧ RowIn .u8 w9 (w8.heap.size + 1) (w9.heap.size) Av mv (pack xv) ∧ Below w.heap.size w w9 := by
      refine ⟨?_, ?_, ?_, ?_, ?_, ?_, ?_, ?_, ?_, ?_, ?_, ?_, ?_, ?_, ?_, ?_, ?_⟩
      all_goals repeat' (first | (with_reducible assumption) | (with_reducible exact Below.refl _ _) | (with_reducible refine Blk.after ?_ b9) | (with_reducible refine RowIn.belowS ?_ b9) | (with_reducible refine Below.after ?_ b9 ?_) | (with_reducible refine Blk.drewN ?_ _) | (with_reducible refine RowIn.drewN ?_ _) | (with_reducible refine below_drewN ?_ _) | (with_reducible refine Blk.drew ?_) | (with_reducible refine RowIn.drew ?_) | (with_reducible refine Below.drew ?_) | (with_reducible refine Blk.new' ?_ ?_ <;> first | (with_reducible rfl) | (simp; done)) | (with_reducible refine Blk.alloc ?_ _) | (with_reducible refine RowIn.alloc ?_ _) | (with_reducible refine Below.alloc ?_ ?_ _) | (with_reducible apply Blk.set') | (with_reducible refine Blk.far' ?_ ?_ _) | (with_reducible refine RowIn.far' ?_ ?_ _) | (with_reducible refine Below.far' ?_ ?_ _) | rfl | omega | go_size)
    clear za_8 zb_8 zc_8 zd_8 zx_8 zy_8 ra_8 rb_8 rr_8 rc_8 rd_8 rx_8 ry_8 ru_8 bb_8 ka_8 fa_8 la_8 kb_8 fb_8 lb_8 kc_8 fc_8 lc_8 kd_8 fd_8 ld_8 kx_8 fx_8 lx_8 ky_8 fy_8 ly_8 b9
    have ka_9 := za_9.cell; have fa_9 := za_9.frozen; have la_9 := za_9.lt
    have kb_9 := zb_9.cell; have fb_9 := zb_9.frozen; have lb_9 := zb_9.lt
    have kc_9 := zc_9.cell; have fc_9 := zc_9.frozen; have lc_9 := zc_9.lt
    have kd_9 := zd_9.cell; have fd_9 := zd_9.frozen; have ld_9 := zd_9.lt
    have kx_9 := zx_9.cell; have fx_9 := zx_9.frozen; have lx_9 := zx_9.lt
    have ky_9 := zy_9.cell; have fy_9 := zy_9.frozen; have ly_9 := zy_9.lt
    have ku_9 := zu_9.cell; have fu_9 := zu_9.frozen; have lu_9 := zu_9.lt
    clear rv
    go_wp2_with fail
    refine (balign_ret Aa na ca xa _ (by exact (ra_9.row.alloc _)) hca hla).mono ?_
    rintro e w10 ⟨As, ms, cs, xs, rfl, hcs, rs, HXs, b10⟩
    replace rs := rs.mono (lo' := w9.heap.size + 1) (by go_size) (Nat.le_refl _)
    have s10 := b10.size
    try simp only [World.size_alloc, World.size_setCell, World.size_drew, size_drewN] at s10
    obtain ⟨za_10, zb_10, zc_10, zd_10, zx_10, zy_10, zu_10, zv_10, ra_10, rb_10, rr_10, rc_10, rd_10, rx_10, ry_10, ru_10, rv_10, rs_10, bb_10⟩ : Blk w10 (w.heap.size) 24 [.slice Aa na ca, .int .i64 ((xa.length : Nat) : Int)] ∧ Blk w10 (w.heap.size + 1) 24 [.slice Ab nb cb, .int .i64 Nb] ∧ Blk w10 (w4.heap.size) 24 [.slice Ac mc cc, .int .i64 ((xc.length : Nat) : Int)] ∧ Blk w10 (w5.heap.size) 24 [.slice Ad md cd, .int .i64 ((xd.length : Nat) : Int)] ∧ Blk w10 (w6.heap.size) 24 [.slice Ax mx cx, .int .i64 ((xx.length : Nat) : Int)] ∧ Blk w10 (w7.heap.size) 24 [.slice Ay my cy, .int .i64 ((xy.length : Nat) : Int)] ∧ Blk w10 (w8.heap.size) 24 [.slice Au mu cu, .int .i64 ((xu.length : Nat) : Int)] ∧ Blk w10 (w9.heap.size) 24 [.slice Av mv cv, .int .i64 ((xv.length : Nat) : Int)] ∧ RowIn .u8 w10 (0) (w.heap.size) Aa na (pack xa) ∧ RowIn .u8 w10 (0) (w.heap.size) Ab nb xsb ∧ RowIn .u8 w10 (0) (w.heap.size) Ar nr xsr ∧ RowIn .u8 w10 (w3.heap.size + 0) (w4.heap.size) Ac mc (pack xc) ∧ RowIn .u8 w10 (w4.heap.size + 1) (w5.heap.size) Ad md (pack xd) ∧ RowIn .u8 w10 (w5.heap.size + 1) (w6.heap.size) Ax mx (pack xx) ∧ RowIn .u8 w10 (w6.heap.size + 1) (w7.heap.size) Ay my (pack xy) ∧ RowIn .u8 w10 (w7.heap.size + 1) (w8.heap.size) Au mu (pack xu) ∧ RowIn .u8 w10 (w8.heap.size + 1) (w9.heap.size) Av mv (pack xv) ∧ RowIn .u8 w10 (w9.heap.size + 1) (w10.heap.size) As ms (pack xs) ∧ Below w.heap.size w w10 := by
      refine ⟨?_, ?_, ?_, ?_, ?_, ?_, ?_, ?_, ?_, ?_, ?_, ?_, ?_, ?_, ?_, ?_, ?_, ?_, ?_⟩
      all_goals repeat' (first | (with_reducible assumption) | (with_reducible exact Below.refl _ _) | (with_reducible refine Blk.after ?_ b10) | (with_reducible refine RowIn.belowS ?_ b10) | (with_reducible refine Below.after ?_ b10 ?_) | (with_reducible refine Blk.drewN ?_ _) | (with_reducible refine RowIn.drewN ?_ _) | (with_reducible refine below_drewN ?_ _) | (with_reducible refine Blk.drew ?_) | (with_reducible refine RowIn.drew ?_) | (with_reducible refine Below.drew ?_) | (with_reducible refine Blk.new' ?_ ?_ <;> first | (with_reducible rfl) | (simp; done)) | (with_reducible refine Blk.alloc ?_ _) | (with_reducible refine RowIn.alloc ?_ _) | (with_reducible refine Below.alloc ?_ ?_ _) | (with_reducible apply Blk.set') | (with_reducible refine Blk.far' ?_ ?_ _) | (with_reducible refine RowIn.far' ?_ ?_ _) | (with_reducible refine Below.far' ?_ ?_ _) | rfl | omega | go_size)
    clear za_9 zb_9 zc_9 zd_9 zx_9 zy_9 zu_9 ra_9 rb_9 rr_9 rc_9 rd_9 rx_9 ry_9 ru_9 rv_9 bb_9 ka_9 fa_9 la_9 kb_9 fb_9 lb_9 kc_9 fc_9 lc_9 kd_9 fd_9 ld_9 kx_9 fx_9 lx_9 ky_9 fy_9 ly_9 ku_9 fu_9 lu_9 b10
    have ka_10 := za_10.cell; have fa_10 := za_10.frozen; have la_10 := za_10.lt
    have kb_10 := zb_10.cell; have fb_10 := zb_10.frozen; have lb_10 := zb_10.lt
    have kc_10 := zc_10.cell; have fc_10 := zc_10.frozen; have lc_10 := zc_10.lt
    have kd_10 := zd_10.cell; have fd_10 := zd_10.frozen; have ld_10 := zd_10.lt
    have kx_10 := zx_10.cell; have fx_10 := zx_10.frozen; have lx_10 := zx_10.lt
    have ky_10 := zy_10.cell; have fy_10 := zy_10.frozen; have ly_10 := zy_10.lt
    have ku_10 := zu_10.cell; have fu_10 := zu_10.frozen; have lu_10 := zu_10.lt
    have kv_10 := zv_10.cell; have fv_10 := zv_10.frozen; have lv_10 := zv_10.lt
    clear rs
    go_wp2_with fail
    refine (ralign_ret Aa na ca xa _ (by exact (ra_10.row.alloc _)) hca hla).mono ?_
    rintro e w11 ⟨At, mt, ct, xt, rfl, hct, rt, HXt, b11⟩
    replace rt := rt.mono (lo' := w10.heap.size + 1) (by go_size) (Nat.le_refl _)
    have s11 := b11.size
    try simp only [World.size_alloc, World.size_setCell, World.size_drew, size_drewN] at s11
    obtain ⟨za_11, zb_11, zc_11, zd_11, zx_11, zy_11, zu_11, zv_11, zs_11, ra_11, rb_11, rr_11, rc_11, rd_11, rx_11, ry_11, ru_11, rv_11, rs_11, rt_11, bb_11⟩ : Blk w11 (w.heap.size) 24 [.slice Aa na ca, .int .i64 ((xa.length : Nat) : Int)] ∧ Blk w11 (w.heap.size + 1) 24 [.slice Ab nb cb, .int .i64 Nb] ∧ Blk w11 (w4.heap.size) 24 [.slice Ac mc cc, .int .i64 ((xc.length : Nat) : Int)] ∧ Blk w11 (w5.heap.size) 24 [.slice Ad md cd, .int .i64 ((xd.length : Nat) : Int)] ∧ Blk w11 (w6.heap.size) 24 [.slice Ax mx cx, .int .i64 ((xx.length : Nat) : Int)] ∧ Blk w11 (w7.heap.size) 24 [.slice Ay my cy, .int .i64 ((xy.length : Nat) : Int)] ∧ Blk w11 (w8.heap.size) 24 [.slice Au mu cu, .int .i64 ((xu.length : Nat) : Int)] ∧ Blk w11 (w9.heap.size) 24 [.slice Av mv cv, .int .i64 ((xv.length : Nat) : Int)] ∧ Blk w11 (w10.heap.size) 24 [.slice As ms cs, .int .i64 ((xs.length : Nat) : Int)] ∧ RowIn .u8 w11 (0) (w.heap.size) Aa na (pack xa) ∧ RowIn .u8 w11 (0) (w.heap.size) Ab nb xsb ∧ RowIn .u8 w11 (0) (w.heap.size) Ar nr xsr ∧ RowIn .u8 w11 (w3.heap.size + 0) (w4.heap.size) Ac mc (pack xc) ∧ RowIn .u8 w11 (w4.heap.size + 1) (w5.heap.size) Ad md (pack xd) ∧ RowIn .u8 w11 (w5.heap.size + 1) (w6.heap.size) Ax mx (pack xx) ∧ RowIn .u8 w11 (w6.heap.size + 1) (w7.heap.size) Ay my (pack xy) ∧ RowIn .u8 w11 (w7.heap.size + 1) (w8.heap.size) Au mu (pack xu) ∧ RowIn .u8 w11 (w8.heap.size + 1) (w9.heap.size) Av mv (pack xv) ∧ RowIn .u8 w11 (w9.heap.size + 1) (w10.heap.size) As ms (pack xs) ∧ RowIn .u8 w11 (w10.heap.size + 1) (w11.heap.size) At mt (pack xt) ∧ Below w.heap.size w w11 := by
      refine ⟨?_, ?_, ?_, ?_, ?_, ?_, ?_, ?_, ?_, ?_, ?_, ?_, ?_, ?_, ?_, ?_, ?_, ?_, ?_, ?_, ?_⟩
      all_goals repeat' (first | (with_reducible assumption) | (with_reducible exact Below.refl _ _) | (with_reducible refine Blk.after ?_ b11) | (with_reducible refine RowIn.belowS ?_ b11) | (with_reducible refine Below.after ?_ b11 ?_) | (with_reducible refine Blk.drewN ?_ _) | (with_reducible refine RowIn.drewN ?_ _) | (with_reducible refine below_drewN ?_ _) | (with_reducible refine Blk.drew ?_) | (with_reducible refine RowIn.drew ?_) | (with_reducible refine Below.drew ?_) | (with_reducible refine Blk.new' ?_ ?_ <;> first | (with_reducible rfl) | (simp; done)) | (with_reducible refine Blk.alloc ?_ _) | (with_reducible refine RowIn.alloc ?_ _) | (with_reducible refine Below.alloc ?_ ?_ _) | (with_reducible apply Blk.set') | (with_reducible refine Blk.far' ?_ ?_ _) | (with_reducible refine RowIn.far' ?_ ?_ _) | (with_reducible refine Below.far' ?_ ?_ _) | rfl | omega | go_size)
    clear za_10 zb_10 zc_10 zd_10 zx_10 zy_10 zu_10 zv_10 ra_10 rb_10 rr_10 rc_10 rd_10 rx_10 ry_10 ru_10 rv_10 rs_10 bb_10 ka_10 fa_10 la_10 kb_10 fb_10 lb_10 kc_10 fc_10 lc_10 kd_10 fd_10 ld_10 kx_10 fx_10 lx_10 ky_10 fy_10 ly_10 ku_10 fu_10 lu_10 kv_10 fv_10 lv_10 b11
    have ka_11 := za_11.cell; have fa_11 := za_11.frozen; have la_11 := za_11.lt
    have kb_11 := zb_11.cell; have fb_11 := zb_11.frozen; have lb_11 := zb_11.lt
    have kc_11 := zc_11.cell; have fc_11 := zc_11.frozen; have lc_11 := zc_11.lt
    have kd_11 := zd_11.cell; have fd_11 := zd_11.frozen; have ld_11 := zd_11.lt
    have kx_11 := zx_11.cell; have fx_11 := zx_11.frozen; have lx_11 := zx_11.lt
    have ky_11 := zy_11.cell; have fy_11 := zy_11.frozen; have ly_11 := zy_11.lt
    have ku_11 := zu_11.cell; have fu_11 := zu_11.frozen; have lu_11 := zu_11.lt
    have kv_11 := zv_11.cell; have fv_11 := zv_11.frozen; have lv_11 := zv_11.lt
    have ks_11 := zs_11.cell; have fs_11 := zs_11.frozen; have ls_11 := zs_11.lt
    clear rt
    have HEc : Hid (xc = xd) := by rw [HXc.out, HXd.out]; exact Lib.hid rfl
    go_wp2_with fail
    refine (rsame_bits Ac Ad mc md cc cd xc xd _ (by exact (rc_11.row.alloc _)) (by exact (rd_11.row.alloc _)) HEc.out).mono ?_
    rintro e w12 ⟨rfl, b12⟩
    have s12 := b12.size
    try simp only [World.size_alloc, World.size_setCell, World.size_drew, size_drewN] at s12
    obtain ⟨za_12, zb_12, zc_12, zd_12, zx_12, zy_12, zu_12, zv_12, zs_12, zt_12, ra_12, rb_12, rr_12, rc_12, rd_12, rx_12, ry_12, ru_12, rv_12, rs_12, rt_12, bb_12⟩ : Blk w12 (w.heap.size) 24 [.slice Aa na ca, .int .i64 ((xa.length : Nat) : Int)] ∧ Blk w12 (w.heap.size + 1) 24 [.slice Ab nb cb, .int .i64 Nb] ∧ Blk w12 (w4.heap.size) 24 [.slice Ac mc cc, .int .i64 ((xc.length : Nat) : Int)] ∧ Blk w12 (w5.heap.size) 24 [.slice Ad md cd, .int .i64 ((xd.length : Nat) : Int)] ∧ Blk w12 (w6.heap.size) 24 [.slice Ax mx cx, .int .i64 ((xx.length : Nat) : Int)] ∧ Blk w12 (w7.heap.size) 24 [.slice Ay my cy, .int .i64 ((xy.length : Nat) : Int)] ∧ Blk w12 (w8.heap.size) 24 [.slice Au mu cu, .int .i64 ((xu.length : Nat) : Int)] ∧ Blk w12 (w9.heap.size) 24 [.slice Av mv cv, .int .i64 ((xv.length : Nat) : Int)] ∧ Blk w12 (w10.heap.size) 24 [.slice As ms cs, .int .i64 ((xs.length : Nat) : Int)] ∧ Blk w12 (w11.heap.size) 24 [.slice At mt ct, .int .i64 ((xt.length : Nat) : Int)] ∧ RowIn .u8 w12 (0) (w.heap.size) Aa na (pack xa) ∧ RowIn .u8 w12 (0) (w.heap.size) Ab nb xsb ∧ RowIn .u8 w12 (0) (w.heap.size) Ar nr xsr ∧ RowIn .u8 w12 (w3.heap.size + 0) (w4.heap.size) Ac mc (pack xc) ∧ RowIn .u8 w12 (w4.heap.size + 1) (w5.heap.size) Ad md (pack xd) ∧ RowIn .u8 w12 (w5.heap.size + 1) (w6.heap.size) Ax mx (pack xx) ∧ RowIn .u8 w12 (w6.heap.size + 1) (w7.heap.size) Ay my (pack xy) ∧ RowIn .u8 w12 (w7.heap.size + 1) (w8.heap.size) Au mu (pack xu) ∧ RowIn .u8 w12 (w8.heap.size + 1) (w9.heap.size) Av mv (pack xv) ∧ RowIn .u8 w12 (w9.heap.size + 1) (w10.heap.size) As ms (pack xs) ∧ RowIn .u8 w12 (w10.heap.size + 1) (w11.heap.size) At mt (pack xt) ∧ Below w.heap.size w w12 := by
      refine ⟨?_, ?_, ?_, ?_, ?_, ?_, ?_, ?_, ?_, ?_, ?_, ?_, ?_, ?_, ?_, ?_, ?_, ?_, ?_, ?_, ?_, ?_⟩
      all_goals repeat' (first | (with_reducible assumption) | (with_reducible exact Below.refl _ _) | (with_reducible refine Blk.after ?_ b12) | (with_reducible refine RowIn.belowS ?_ b12) | (with_reducible refine Below.after ?_ b12 ?_) | (with_reducible refine Blk.drewN ?_ _) | (with_reducible refine RowIn.drewN ?_ _) | (with_reducible refine below_drewN ?_ _) | (with_reducible refine Blk.drew ?_) | (with_reducible refine RowIn.drew ?_) | (with_reducible refine Below.drew ?_) | (with_reducible refine Blk.new' ?_ ?_ <;> first | (with_reducible rfl) | (simp; done)) | (with_reducible refine Blk.alloc ?_ _) | (with_reducible refine RowIn.alloc ?_ _) | (with_reducible refine Below.alloc ?_ ?_ _) | (with_reducible apply Blk.set') | (with_reducible refine Blk.far' ?_ ?_ _) | (with_reducible refine RowIn.far' ?_ ?_ _) | (with_reducible refine Below.far' ?_ ?_ _) | rfl | omega | go_size)
    clear za_11 zb_11 zc_11 zd_11 zx_11 zy_11 zu_11 zv_11 zs_11 ra_11 rb_11 rr_11 rc_11 rd_11 rx_11 ry_11 ru_11 rv_11 rs_11 rt_11 bb_11 ka_11 fa_11 la_11 kb_11 fb_11 lb_11 kc_11 fc_11 lc_11 kd_11 fd_11 ld_11 kx_11 fx_11 lx_11 ky_11 fy_11 ly_11 ku_11 fu_11 lu_11 kv_11 fv_11 lv_11 ks_11 fs_11 ls_11 b12
    have ka_12 := za_12.cell; have fa_12 := za_12.frozen; have la_12 := za_12.lt
    have kb_12 := zb_12.cell; have fb_12 := zb_12.frozen; have lb_12 := zb_12.lt
    have kc_12 := zc_12.cell; have fc_12 := zc_12.frozen; have lc_12 := zc_12.lt
    have kd_12 := zd_12.cell; have fd_12 := zd_12.frozen; have ld_12 := zd_12.lt
    have kx_12 := zx_12.cell; have fx_12 := zx_12.frozen; have lx_12 := zx_12.lt
    have ky_12 := zy_12.cell; have fy_12 := zy_12.frozen; have ly_12 := zy_12.lt
    have ku_12 := zu_12.cell; have fu_12 := zu_12.frozen; have lu_12 := zu_12.lt
    have kv_12 := zv_12.cell; have fv_12 := zv_12.frozen; have lv_12 := zv_12.lt
    have ks_12 := zs_12.cell; have fs_12 := zs_12.frozen; have ls_12 := zs_12.lt
    have kt_12 := zt_12.cell; have ft_12 := zt_12.frozen; have lt_12 := zt_12.lt
    have HEx : Hid (xx = xy) := by rw [HXx.out, HXy.out]; exact Lib.hid rfl
    go_wp2_with fail
    refine (rsame_bits Ax Ay mx my cx cy xx xy _ rx_12.row ry_12.row HEx.out).mono ?_
    rintro e w13 ⟨rfl, b13⟩
    have s13 := b13.size
    try simp only [World.size_alloc, World.size_setCell, World.size_drew, size_drewN] at s13
    obtain ⟨za_13, zb_13, zc_13, zd_13, zx_13, zy_13, zu_13, zv_13, zs_13, zt_13, ra_13, rb_13, rr_13, rc_13, rd_13, rx_13, ry_13, ru_13, rv_13, rs_13, rt_13, bb_13⟩ : Blk w13 (w.heap.size) 24 [.slice Aa na ca, .int .i64 ((xa.length : Nat) : Int)] ∧ Blk w13 (w.heap.size + 1) 24 [.slice Ab nb cb, .int .i64 Nb] ∧ Blk w13 (w4.heap.size) 24 [.slice Ac mc cc, .int .i64 ((xc.length : Nat) : Int)] ∧ Blk w13 (w5.heap.size) 24 [.slice Ad md cd, .int .i64 ((xd.length : Nat) : Int)] ∧ Blk w13 (w6.heap.size) 24 [.slice Ax mx cx, .int .i64 ((xx.length : Nat) : Int)] ∧ Blk w13 (w7.heap.size) 24 [.slice Ay my cy, .int .i64 ((xy.length : Nat) : Int)] ∧ Blk w13 (w8.heap.size) 24 [.slice Au mu cu, .int .i64 ((xu.length : Nat) : Int)] ∧ Blk w13 (w9.heap.size) 24 [.slice Av mv cv, .int .i64 ((xv.length : Nat) : Int)] ∧ Blk w13 (w10.heap.size) 24 [.slice As ms cs, .int .i64 ((xs.length : Nat) : Int)] ∧ Blk w13 (w11.heap.size) 24 [.slice At mt ct, .int .i64 ((xt.length : Nat) : Int)] ∧ RowIn .u8 w13 (0) (w.heap.size) Aa na (pack xa) ∧ RowIn .u8 w13 (0) (w.heap.size) Ab nb xsb ∧ RowIn .u8 w13 (0) (w.heap.size) Ar nr xsr ∧ RowIn .u8 w13 (w3.heap.size + 0) (w4.heap.size) Ac mc (pack xc) ∧ RowIn .u8 w13 (w4.heap.size + 1) (w5.heap.size) Ad md (pack xd) ∧ RowIn .u8 w13 (w5.heap.size + 1) (w6.heap.size) Ax mx (pack xx) ∧ RowIn .u8 w13 (w6.heap.size + 1) (w7.heap.size) Ay my (pack xy) ∧ RowIn .u8 w13 (w7.heap.size + 1) (w8.heap.size) Au mu (pack xu) ∧ RowIn .u8 w13 (w8.heap.size + 1) (w9.heap.size) Av mv (pack xv) ∧ RowIn .u8 w13 (w9.heap.size + 1) (w10.heap.size) As ms (pack xs) ∧ RowIn .u8 w13 (w10.heap.size + 1) (w11.heap.size) At mt (pack xt) ∧ Below w.heap.size w w13 := by
      refine ⟨?_, ?_, ?_, ?_, ?_, ?_, ?_, ?_, ?_, ?_, ?_, ?_, ?_, ?_, ?_, ?_, ?_, ?_, ?_, ?_, ?_, ?_⟩
      all_goals repeat' (first | (with_reducible assumption) | (with_reducible exact Below.refl _ _) | (with_reducible refine Blk.after ?_ b13) | (with_reducible refine RowIn.belowS ?_ b13) | (with_reducible refine Below.after ?_ b13 ?_) | (with_reducible refine Blk.drewN ?_ _) | (with_reducible refine RowIn.drewN ?_ _) | (with_reducible refine below_drewN ?_ _) | (with_reducible refine Blk.drew ?_) | (with_reducible refine RowIn.drew ?_) | (with_reducible refine Below.drew ?_) | (with_reducible refine Blk.new' ?_ ?_ <;> first | (with_reducible rfl) | (simp; done)) | (with_reducible refine Blk.alloc ?_ _) | (with_reducible refine RowIn.alloc ?_ _) | (with_reducible refine Below.alloc ?_ ?_ _) | (with_reducible apply Blk.set') | (with_reducible refine Blk.far' ?_ ?_ _) | (with_reducible refine RowIn.far' ?_ ?_ _) | (with_reducible refine Below.far' ?_ ?_ _) | rfl | omega | go_size)
    clear za_12 zb_12 zc_12 zd_12 zx_12 zy_12 zu_12 zv_12 zs_12 zt_12 ra_12 rb_12 rr_12 rc_12 rd_12 rx_12 ry_12 ru_12 rv_12 rs_12 rt_12 bb_12 ka_12 fa_12 la_12 kb_12 fb_12 lb_12 kc_12 fc_12 lc_12 kd_12 fd_12 ld_12 kx_12 fx_12 lx_12 ky_12 fy_12 ly_12 ku_12 fu_12 lu_12 kv_12 fv_12 lv_12 ks_12 fs_12 ls_12 kt_12 ft_12 lt_12 b13
    have ka_13 := za_13.cell; have fa_13 := za_13.frozen; have la_13 := za_13.lt
    have kb_13 := zb_13.cell; have fb_13 := zb_13.frozen; have lb_13 := zb_13.lt
    have kc_13 := zc_13.cell; have fc_13 := zc_13.frozen; have lc_13 := zc_13.lt
    have kd_13 := zd_13.cell; have fd_13 := zd_13.frozen; have ld_13 := zd_13.lt
    have kx_13 := zx_13.cell; have fx_13 := zx_13.frozen; have lx_13 := zx_13.lt
    have ky_13 := zy_13.cell; have fy_13 := zy_13.frozen; have ly_13 := zy_13.lt
    have ku_13 := zu_13.cell; have fu_13 := zu_13.frozen; have lu_13 := zu_13.lt
    have kv_13 := zv_13.cell; have fv_13 := zv_13.frozen; have lv_13 := zv_13.lt
    have ks_13 := zs_13.cell; have fs_13 := zs_13.frozen; have ls_13 := zs_13.lt
    have kt_13 := zt_13.cell; have ft_13 := zt_13.frozen; have lt_13 := zt_13.lt
    have HEu : Hid (xu = xv) := by rw [HXu.out, HXv.out]; exact Lib.hid rfl
    go_wp2_with fail
    refine (rsame_bits Au Av mu mv cu cv xu xv _ ru_13.row rv_13.row HEu.out).mono ?_
    rintro e w14 ⟨rfl, b14⟩
    have s14 := b14.size
    try simp only [World.size_alloc, World.size_setCell, World.size_drew, size_drewN] at s14
    obtain ⟨za_14, zb_14, zc_14, zd_14, zx_14, zy_14, zu_14, zv_14, zs_14, zt_14, ra_14, rb_14, rr_14, rc_14, rd_14, rx_14, ry_14, ru_14, rv_14, rs_14, rt_14, bb_14⟩ : Blk w14 (w.heap.size) 24 [.slice Aa na ca, .int .i64 ((xa.length : Nat) : Int)] ∧ Blk w14 (w.heap.size + 1) 24 [.slice Ab nb cb, .int .i64 Nb] ∧ Blk w14 (w4.heap.size) 24 [.slice Ac mc cc, .int .i64 ((xc.length : Nat) : Int)] ∧ Blk w14 (w5.heap.size) 24 [.slice Ad md cd, .int .i64 ((xd.length : Nat) : Int)] ∧ Blk w14 (w6.heap.size) 24 [.slice Ax mx cx, .int .i64 ((xx.length : Nat) : Int)] ∧ Blk w14 (w7.heap.size) 24 [.slice Ay my cy, .int .i64 ((xy.length : Nat) : Int)] ∧ Blk w14 (w8.heap.size) 24 [.slice Au mu cu, .int .i64 ((xu.length : Nat) : Int)] ∧ Blk w14 (w9.heap.size) 24 [.slice Av mv cv, .int .i64 ((xv.length : Nat) : Int)] ∧ Blk w14 (w10.heap.size) 24 [.slice As ms cs, .int .i64 ((xs.length : Nat) : Int)] ∧ Blk w14 (w11.heap.size) 24 [.slice At mt ct, .int .i64 ((xt.length : Nat) : Int)] ∧ RowIn .u8 w14 (0) (w.heap.size) Aa na (pack xa) ∧ RowIn .u8 w14 (0) (w.heap.size) Ab nb xsb ∧ RowIn .u8 w14 (0) (w.heap.size) Ar nr xsr ∧ RowIn .u8 w14 (w3.heap.size + 0) (w4.heap.size) Ac mc (pack xc) ∧ RowIn .u8 w14 (w4.heap.size + 1) (w5.heap.size) Ad md (pack xd) ∧ RowIn .u8 w14 (w5.heap.size + 1) (w6.heap.size) Ax mx (pack xx) ∧ RowIn .u8 w14 (w6.heap.size + 1) (w7.heap.size) Ay my (pack xy) ∧ RowIn .u8 w14 (w7.heap.size + 1) (w8.heap.size) Au mu (pack xu) ∧ RowIn .u8 w14 (w8.heap.size + 1) (w9.heap.size) Av mv (pack xv) ∧ RowIn .u8 w14 (w9.heap.size + 1) (w10.heap.size) As ms (pack xs) ∧ RowIn .u8 w14 (w10.heap.size + 1) (w11.heap.size) At mt (pack xt) ∧ Below w.heap.size w w14 := by
      refine ⟨?_, ?_, ?_, ?_, ?_, ?_, ?_, ?_, ?_, ?_, ?_, ?_, ?_, ?_, ?_, ?_, ?_, ?_, ?_, ?_, ?_, ?_⟩
      all_goals repeat' (first | (with_reducible assumption) | (with_reducible exact Below.refl _ _) | (with_reducible refine Blk.after ?_ b14) | (with_reducible refine RowIn.belowS ?_ b14) | (with_reducible refine Below.after ?_ b14 ?_) | (with_reducible refine Blk.drewN ?_ _) | (with_reducible refine RowIn.drewN ?_ _) | (with_reducible refine below_drewN ?_ _) | (with_reducible refine Blk.drew ?_) | (with_reducible refine RowIn.drew ?_) | (with_reducible refine Below.drew ?_) | (with_reducible refine Blk.new' ?_ ?_ <;> first | (with_reducible rfl) | (simp; done)) | (with_reducible refine Blk.alloc ?_ _) | (with_reducible refine RowIn.alloc ?_ _) | (with_reducible refine Below.alloc ?_ ?_ _) | (with_reducible apply Blk.set') | (with_reducible refine Blk.far' ?_ ?_ _) | (with_reducible refine RowIn.far' ?_ ?_ _) | (with_reducible refine Below.far' ?_ ?_ _) | rfl | omega | go_size)
    clear za_13 zb_13 zc_13 zd_13 zx_13 zy_13 zu_13 zv_13 zs_13 zt_13 ra_13 rb_13 rr_13 rc_13 rd_13 rx_13 ry_13 ru_13 rv_13 rs_13 rt_13 bb_13 ka_13 fa_13 la_13 kb_13 fb_13 lb_13 kc_13 fc_13 lc_13 kd_13 fd_13 ld_13 kx_13 fx_13 lx_13 ky_13 fy_13 ly_13 ku_13 fu_13 lu_13 kv_13 fv_13 lv_13 ks_13 fs_13 ls_13 kt_13 ft_13 lt_13 b14
    have ka_14 := za_14.cell; have fa_14 := za_14.frozen; have la_14 := za_14.lt
    have kb_14 := zb_14.cell; have fb_14 := zb_14.frozen; have lb_14 := zb_14.lt
    have kc_14 := zc_14.cell; have fc_14 := zc_14.frozen; have lc_14 := zc_14.lt
    have kd_14 := zd_14.cell; have fd_14 := zd_14.frozen; have ld_14 := zd_14.lt
    have kx_14 := zx_14.cell; have fx_14 := zx_14.frozen; have lx_14 := zx_14.lt
    have ky_14 := zy_14.cell; have fy_14 := zy_14.frozen; have ly_14 := zy_14.lt
    have ku_14 := zu_14.cell; have fu_14 := zu_14.frozen; have lu_14 := zu_14.lt
    have kv_14 := zv_14.cell; have fv_14 := zv_14.frozen; have lv_14 := zv_14.lt
    have ks_14 := zs_14.cell; have fs_14 := zs_14.frozen; have ls_14 := zs_14.lt
    have kt_14 := zt_14.cell; have ft_14 := zt_14.frozen; have lt_14 := zt_14.lt
    have HEs : Hid (xs = xt) := by rw [HXs.out, HXt.out]; exact Lib.hid rfl
    go_wp2_with fail
    refine (rsame_bits As At ms mt cs ct xs xt _ rs_14.row rt_14.row HEs.out).mono ?_
    rintro e w15 ⟨rfl, b15⟩
    have s15 := b15.size
    try simp only [World.size_alloc, World.size_setCell, World.size_drew, size_drewN] at s15
    obtain ⟨za_15, zb_15, zc_15, zd_15, zx_15, zy_15, zu_15, zv_15, zs_15, zt_15, ra_15, rb_15, rr_15, rc_15, rd_15, rx_15, ry_15, ru_15, rv_15, rs_15, rt_15, bb_15⟩ : Blk w15 (w.heap.size) 24 [.slice Aa na ca, .int .i64 ((xa.length : Nat) : Int)] ∧ Blk w15 (w.heap.size + 1) 24 [.slice Ab nb cb, .int .i64 Nb] ∧ Blk w15 (w4.heap.size) 24 [.slice Ac mc cc, .int .i64 ((xc.length : Nat) : Int)] ∧ Blk w15 (w5.heap.size) 24 [.slice Ad md cd, .int .i64 ((xd.length : Nat) : Int)] ∧ Blk w15 (w6.heap.size) 24 [.slice Ax mx cx, .int .i64 ((xx.length : Nat) : Int)] ∧ Blk w15 (w7.heap.size) 24 [.slice Ay my cy, .int .i64 ((xy.length : Nat) : Int)] ∧ Blk w15 (w8.heap.size) 24 [.slice Au mu cu, .int .i64 ((xu.length : Nat) : Int)] ∧ Blk w15 (w9.heap.size) 24 [.slice Av mv cv, .int .i64 ((xv.length : Nat) : Int)] ∧ Blk w15 (w10.heap.size) 24 [.slice As ms cs, .int .i64 ((xs.length : Nat) : Int)] ∧ Blk w15 (w11.heap.size) 24 [.slice At mt ct, .int .i64 ((xt.length : Nat) : Int)] ∧ RowIn .u8 w15 (0) (w.heap.size) Aa na (pack xa) ∧ RowIn .u8 w15 (0) (w.heap.size) Ab nb xsb ∧ RowIn .u8 w15 (0) (w.heap.size) Ar nr xsr ∧ RowIn .u8 w15 (w3.heap.size + 0) (w4.heap.size) Ac mc (pack xc) ∧ RowIn .u8 w15 (w4.heap.size + 1) (w5.heap.size) Ad md (pack xd) ∧ RowIn .u8 w15 (w5.heap.size + 1) (w6.heap.size) Ax mx (pack xx) ∧ RowIn .u8 w15 (w6.heap.size + 1) (w7.heap.size) Ay my (pack xy) ∧ RowIn .u8 w15 (w7.heap.size + 1) (w8.heap.size) Au mu (pack xu) ∧ RowIn .u8 w15 (w8.heap.size + 1) (w9.heap.size) Av mv (pack xv) ∧ RowIn .u8 w15 (w9.heap.size + 1) (w10.heap.size) As ms (pack xs) ∧ RowIn .u8 w15 (w10.heap.size + 1) (w11.heap.size) At mt (pack xt) ∧ Below w.heap.size w w15 := by
      refine ⟨?_, ?_, ?_, ?_, ?_, ?_, ?_, ?_, ?_, ?_, ?_, ?_, ?_, ?_, ?_, ?_, ?_, ?_, ?_, ?_, ?_, ?_⟩
      all_goals repeat' (first | (with_reducible assumption) | (with_reducible exact Below.refl _ _) | (with_reducible refine Blk.after ?_ b15) | (with_reducible refine RowIn.belowS ?_ b15) | (with_reducible refine Below.after ?_ b15 ?_) | (with_reducible refine Blk.drewN ?_ _) | (with_reducible refine RowIn.drewN ?_ _) | (with_reducible refine below_drewN ?_ _) | (with_reducible refine Blk.drew ?_) | (with_reducible refine RowIn.drew ?_) | (with_reducible refine Below.drew ?_) | (with_reducible refine Blk.new' ?_ ?_ <;> first | (with_reducible rfl) | (simp; done)) | (with_reducible refine Blk.alloc ?_ _) | (with_reducible refine RowIn.alloc ?_ _) | (with_reducible refine Below.alloc ?_ ?_ _) | (with_reducible apply Blk.set') | (with_reducible refine Blk.far' ?_ ?_ _) | (with_reducible refine RowIn.far' ?_ ?_ _) | (with_reducible refine Below.far' ?_ ?_ _) | rfl | omega | go_size)
    clear za_14 zb_14 zc_14 zd_14 zx_14 zy_14 zu_14 zv_14 zs_14 zt_14 ra_14 rb_14 rr_14 rc_14 rd_14 rx_14 ry_14 ru_14 rv_14 rs_14 rt_14 bb_14 ka_14 fa_14 la_14 kb_14 fb_14 lb_14 kc_14 fc_14 lc_14 kd_14 fd_14 ld_14 kx_14 fx_14 lx_14 ky_14 fy_14 ly_14 ku_14 fu_14 lu_14 kv_14 fv_14 lv_14 ks_14 fs_14 ls_14 kt_14 ft_14 lt_14 b15
    have ka_15 := za_15.cell; have fa_15 := za_15.frozen; have la_15 := za_15.lt
    have kb_15 := zb_15.cell; have fb_15 := zb_15.frozen; have lb_15 := zb_15.lt
    have kc_15 := zc_15.cell; have fc_15 := zc_15.frozen; have lc_15 := zc_15.lt
    have kd_15 := zd_15.cell; have fd_15 := zd_15.frozen; have ld_15 := zd_15.lt
    have kx_15 := zx_15.cell; have fx_15 := zx_15.frozen; have lx_15 := zx_15.lt
    have ky_15 := zy_15.cell; have fy_15 := zy_15.frozen; have ly_15 := zy_15.lt
    have ku_15 := zu_15.cell; have fu_15 := zu_15.frozen; have lu_15 := zu_15.lt
    have kv_15 := zv_15.cell; have fv_15 := zv_15.frozen; have lv_15 := zv_15.lt
    have ks_15 := zs_15.cell; have fs_15 := zs_15.frozen; have ls_15 := zs_15.lt
    have kt_15 := zt_15.cell; have ft_15 := zt_15.frozen; have lt_15 := zt_15.lt
    go_wp2
    go_ret
    refine ⟨rfl, ?_⟩
    repeat' (first | (with_reducible assumption) | (with_reducible exact Below.refl _ _) | (with_reducible refine Blk.drewN ?_ _) | (with_reducible refine RowIn.drewN ?_ _) | (with_reducible refine below_drewN ?_ _) | (with_reducible refine Blk.drew ?_) | (with_reducible refine RowIn.drew ?_) | (with_reducible refine Below.drew ?_) | (with_reducible refine Blk.new' ?_ ?_ <;> first | (with_reducible rfl) | (simp; done)) | (with_reducible refine Blk.alloc ?_ _) | (with_reducible refine RowIn.alloc ?_ _) | (with_reducible refine Below.alloc ?_ ?_ _) | (with_reducible apply Blk.set') | (with_reducible refine Blk.far' ?_ ?_ _) | (with_reducible refine RowIn.far' ?_ ?_ _) | (with_reducible refine Below.far' ?_ ?_ _) | rfl | omega | go_size)
  obtain ⟨xb, rfl, rfl, hlb⟩ := valid_bits hxb (Decidable.not_not.1 hvb)
  clear hvb
  go_enter Try.func5, Try.ntmps5
  go_wp2_with fail
  refine (rgreat_no Aa na ca _ _ hga).mono ?_
  rintro e w1 ⟨rfl, b1⟩
  have s1 := b1.size
  try simp only [World.size_alloc, World.size_setCell, World.size_drew, size_drewN] at s1
  obtain ⟨za_1, zb_1, ra_1, rb_1, rr_1, bb_1⟩ : Blk w1 (w.heap.size) 24 [.slice Aa na ca, .int .i64 ((xa.length : Nat) : Int)] ∧ Blk w1 (w.heap.size + 1) 24 [.slice Ab nb cb, .int .i64 ((xb.length : Nat) : Int)] ∧ RowIn .u8 w1 (0) (w.heap.size) Aa na (pack xa) ∧ RowIn .u8 w1 (0) (w.heap.size) Ab nb (pack xb) ∧ RowIn .u8 w1 (0) (w.heap.size) Ar nr xsr ∧ Below w.heap.size w w1 := by
    refine ⟨?_, ?_, ?_, ?_, ?_, ?_⟩
    all_goals repeat' (first | (with_reducible assumption) | (with_reducible exact Below.refl _ _) | (with_reducible refine Blk.after ?_ b1) | (with_reducible refine RowIn.belowS ?_ b1) | (with_reducible refine Below.after ?_ b1 ?_) | (with_reducible refine Blk.drewN ?_ _) | (with_reducible refine RowIn.drewN ?_ _) | (with_reducible refine below_drewN ?_ _) | (with_reducible refine Blk.drew ?_) | (with_reducible refine RowIn.drew ?_) | (with_reducible refine Below.drew ?_) | (with_reducible refine Blk.new' ?_ ?_ <;> first | (with_reducible rfl) | (simp; done)) | (with_reducible refine Blk.alloc ?_ _) | (with_reducible refine RowIn.alloc ?_ _) | (with_reducible refine Below.alloc ?_ ?_ _) | (with_reducible apply Blk.set') | (with_reducible refine Blk.far' ?_ ?_ _) | (with_reducible refine RowIn.far' ?_ ?_ _) | (with_reducible refine Below.far' ?_ ?_ _) | rfl | omega | go_size)
  clear b1
  have ka_1 := za_1.cell; have fa_1 := za_1.frozen; have la_1 := za_1.lt
  have kb_1 := zb_1.cell; have fb_1 := zb_1.frozen; have lb_1 := zb_1.lt
  go_wp2_with fail
  refine (rgreat_no Ab nb cb _ _ hgb).mono ?_
  rintro e w2 ⟨rfl, b2⟩
  have s2 := b2.size
  try simp only [World.size_alloc, World.size_setCell, World.size_drew, size_drewN] at s2
  obtain ⟨za_2, zb_2, ra_2, rb_2, rr_2, bb_2⟩ : Blk w2 (w.heap.size) 24 [.slice Aa na ca, .int .i64 ((xa.length : Nat) : Int)] ∧ Blk w2 (w.heap.size + 1) 24 [.slice Ab nb cb, .int .i64 ((xb.length : Nat) : Int)] ∧ RowIn .u8 w2 (0) (w.heap.size) Aa na (pack xa) ∧ RowIn .u8 w2 (0) (w.heap.size) Ab nb (pack xb) ∧ RowIn .u8 w2 (0) (w.heap.size) Ar nr xsr ∧ Below w.heap.size w w2 := by
    refine ⟨?_, ?_, ?_, ?_, ?_, ?_⟩
    all_goals repeat' (first | (with_reducible assumption) | (with_reducible exact Below.refl _ _) | (with_reducible refine Blk.after ?_ b2) | (with_reducible refine RowIn.belowS ?_ b2) | (with_reducible refine Below.after ?_ b2 ?_) | (with_reducible refine Blk.drewN ?_ _) | (with_reducible refine RowIn.drewN ?_ _) | (with_reducible refine below_drewN ?_ _) | (with_reducible refine Blk.drew ?_) | (with_reducible refine RowIn.drew ?_) | (with_reducible refine Below.drew ?_) | (with_reducible refine Blk.new' ?_ ?_ <;> first | (with_reducible rfl) | (simp; done)) | (with_reducible refine Blk.alloc ?_ _) | (with_reducible refine RowIn.alloc ?_ _) | (with_reducible refine Below.alloc ?_ ?_ _) | (with_reducible apply Blk.set') | (with_reducible refine Blk.far' ?_ ?_ _) | (with_reducible refine RowIn.far' ?_ ?_ _) | (with_reducible refine Below.far' ?_ ?_ _) | rfl | omega | go_size)
  clear za_1 zb_1 ra_1 rb_1 rr_1 bb_1 ka_1 fa_1 la_1 kb_1 fb_1 lb_1 b2
  have ka_2 := za_2.cell; have fa_2 := za_2.frozen; have la_2 := za_2.lt
  have kb_2 := zb_2.cell; have fb_2 := zb_2.frozen; have lb_2 := zb_2.lt
  go_wp2_with fail
  refine (rgreat_no Ar nr cr _ _ hgr).mono ?_
  rintro e w3 ⟨rfl, b3⟩
  have s3 := b3.size
  try simp only [World.size_alloc, World.size_setCell, World.size_drew, size_drewN] at s3
  obtain ⟨za_3, zb_3, ra_3, rb_3, rr_3, bb_3⟩ : Blk w3 (w.heap.size) 24 [.slice Aa na ca, .int .i64 ((xa.length : Nat) : Int)] ∧ Blk w3 (w.heap.size + 1) 24 [.slice Ab nb cb, .int .i64 ((xb.length : Nat) : Int)] ∧ RowIn .u8 w3 (0) (w.heap.size) Aa na (pack xa) ∧ RowIn .u8 w3 (0) (w.heap.size) Ab nb (pack xb) ∧ RowIn .u8 w3 (0) (w.heap.size) Ar nr xsr ∧ Below w.heap.size w w3 := by
    refine ⟨?_, ?_, ?_, ?_, ?_, ?_⟩
    all_goals repeat' (first | (with_reducible assumption) | (with_reducible exact Below.refl _ _) | (with_reducible refine Blk.after ?_ b3) | (with_reducible refine RowIn.belowS ?_ b3) | (with_reducible refine Below.after ?_ b3 ?_) | (with_reducible refine Blk.drewN ?_ _) | (with_reducible refine RowIn.drewN ?_ _) | (with_reducible refine below_drewN ?_ _) | (with_reducible refine Blk.drew ?_) | (with_reducible refine RowIn.drew ?_) | (with_reducible refine Below.drew ?_) | (with_reducible refine Blk.new' ?_ ?_ <;> first | (with_reducible rfl) | (simp; done)) | (with_reducible refine Blk.alloc ?_ _) | (with_reducible refine RowIn.alloc ?_ _) | (with_reducible refine Below.alloc ?_ ?_ _) | (with_reducible apply Blk.set') | (with_reducible refine Blk.far' ?_ ?_ _) | (with_reducible refine RowIn.far' ?_ ?_ _) | (with_reducible refine Below.far' ?_ ?_ _) | rfl | omega | go_size)
  clear za_2 zb_2 ra_2 rb_2 rr_2 bb_2 ka_2 fa_2 la_2 kb_2 fb_2 lb_2 b3
  have ka_3 := za_3.cell; have fa_3 := za_3.frozen; have la_3 := za_3.lt
  have kb_3 := zb_3.cell; have fb_3 := zb_3.frozen; have lb_3 := zb_3.lt
  go_wp2_with fail
  refine (bjoin_ret Aa Ab na ca nb cb xa xb _ ra_3.row rb_3.row hca hcb hla hlb).mono ?_
  rintro e w4 ⟨Ac, mc, cc, xc, rfl, hcc, rc, HXc, b4⟩
  replace rc := rc.mono (lo' := w3.heap.size + 0) (by go_size) (Nat.le_refl _)
  have s4 := b4.size
  try simp only [World.size_alloc, World.size_setCell, World.size_drew, size_drewN] at s4
  obtain ⟨za_4, zb_4, ra_4, rb_4, rr_4, rc_4, bb_4⟩ : Blk w4 (w.heap.size) 24 [.slice Aa na ca, .int .i64 ((xa.length : Nat) : Int)] ∧ Blk w4 (w.heap.size + 1) 24 [.slice Ab nb cb, .int .i64 ((xb.length : Nat) : Int)] ∧ RowIn .u8 w4 (0) (w.heap.size) Aa na (pack xa) ∧ RowIn .u8 w4 (0) (w.heap.size) Ab nb (pack xb) ∧ RowIn .u8 w4 (0) (w.heap.size) Ar nr xsr ∧ RowIn .u8 w4 (w3.heap.size + 0) (w4.heap.size) Ac mc (pack xc) ∧ Below w.heap.size w w4 := by
    refine ⟨?_, ?_, ?_, ?_, ?_, ?_, ?_⟩
    all_goals repeat' (first | (with_reducible assumption) | (with_reducible exact Below.refl _ _) | (with_reducible refine Blk.after ?_ b4) | (with_reducible refine RowIn.belowS ?_ b4) | (with_reducible refine Below.after ?_ b4 ?_) | (with_reducible refine Blk.drewN ?_ _) | (with_reducible refine RowIn.drewN ?_ _) | (with_reducible refine below_drewN ?_ _) | (with_reducible refine Blk.drew ?_) | (with_reducible refine RowIn.drew ?_) | (with_reducible refine Below.drew ?_) | (with_reducible refine Blk.new' ?_ ?_ <;> first | (with_reducible rfl) | (simp; done)) | (with_reducible refine Blk.alloc ?_ _) | (with_reducible refine RowIn.alloc ?_ _) | (with_reducible refine Below.alloc ?_ ?_ _) | (with_reducible apply Blk.set') | (with_reducible refine Blk.far' ?_ ?_ _) | (with_reducible refine RowIn.far' ?_ ?_ _) | (with_reducible refine Below.far' ?_ ?_ _) | rfl | omega | go_size)
  clear za_3 zb_3 ra_3 rb_3 rr_3 bb_3 ka_3 fa_3 la_3 kb_3 fb_3 lb_3 b4
  have ka_4 := za_4.cell; have fa_4 := za_4.frozen; have la_4 := za_4.lt
  have kb_4 := zb_4.cell; have fb_4 := zb_4.frozen; have lb_4 := zb_4.lt
  clear rc
  go_wp2_with fail
  refine (rjoin_ret Aa Ab na ca nb cb xa xb _ (by exact (ra_4.row.alloc _)) (by exact (rb_4.row.alloc _)) hca hcb hla hlb).mono ?_
  rintro e w5 ⟨Ad, md, cd, xd, rfl, hcd, rd, HXd, b5⟩
  replace rd := rd.mono (lo' := w4.heap.size + 1) (by go_size) (Nat.le_refl _)
  have s5 := b5.size
  try simp only [World.size_alloc, World.size_setCell, World.size_drew, size_drewN] at s5
  obtain ⟨za_5, zb_5, zc_5, ra_5, rb_5, rr_5, rc_5, rd_5, bb_5⟩ : Blk w5 (w.heap.size) 24 [.slice Aa na ca, .int .i64 ((xa.length : Nat) : Int)] ∧ Blk w5 (w.heap.size + 1) 24 [.slice Ab nb cb, .int .i64 ((xb.length : Nat) : Int)] ∧ Blk w5 (w4.heap.size) 24 [.slice Ac mc cc, .int .i64 ((xc.length : Nat) : Int)] ∧ RowIn .u8 w5 (0) (w.heap.size) Aa na (pack xa) ∧ RowIn .u8 w5 (0) (w.heap.size) Ab nb (pack xb) ∧ RowIn .u8 w5 (0) (w.heap.size) Ar nr xsr ∧ RowIn .u8 w5 (w3.heap.size + 0) (w4.heap.size) Ac mc (pack xc) ∧ RowIn .u8 w5 (w4.heap.size + 1) (w5.heap.size) Ad md (pack xd) ∧ Below w.heap.size w w5 := by
    refine ⟨?_, ?_, ?_, ?_, ?_, ?_, ?_, ?_, ?_⟩
    all_goals repeat' (first | (with_reducible assumption) | (with_reducible exact Below.refl _ _) | (with_reducible refine Blk.after ?_ b5) | (with_reducible refine RowIn.belowS ?_ b5) | (with_reducible refine Below.after ?_ b5 ?_) | (with_reducible refine Blk.drewN ?_ _) | (with_reducible refine RowIn.drewN ?_ _) | (with_reducible refine below_drewN ?_ _) | (with_reducible refine Blk.drew ?_) | (with_reducible refine RowIn.drew ?_) | (with_reducible refine Below.drew ?_) | (with_reducible refine Blk.new' ?_ ?_ <;> first | (with_reducible rfl) | (simp; done)) | (with_reducible refine Blk.alloc ?_ _) | (with_reducible refine RowIn.alloc ?_ _) | (with_reducible refine Below.alloc ?_ ?_ _) | (with_reducible apply Blk.set') | (with_reducible refine Blk.far' ?_ ?_ _) | (with_reducible refine RowIn.far' ?_ ?_ _) | (with_reducible refine Below.far' ?_ ?_ _) | rfl | omega | go_size)
  clear za_4 zb_4 ra_4 rb_4 rr_4 rc_4 bb_4 ka_4 fa_4 la_4 kb_4 fb_4 lb_4 b5
  have ka_5 := za_5.cell; have fa_5 := za_5.frozen; have la_5 := za_5.lt
  have kb_5 := zb_5.cell; have fb_5 := zb_5.frozen; have lb_5 := zb_5.lt
  have kc_5 := zc_5.cell; have fc_5 := zc_5.frozen; have lc_5 := zc_5.lt
  clear rd
  go_wp2_with fail
  refine (bcut_ret Aa na ca xa p q _ (by exact (ra_5.row.alloc _)) hca hla).mono ?_
  rintro e w6 ⟨Ax, mx, cx, xx, rfl, hcx, rx, HXx, b6⟩
  replace rx := rx.mono (lo' := w5.heap.size + 1) (by go_size) (Nat.le_refl _)
  have s6 := b6.size
  try simp only [World.size_alloc, World.size_setCell, World.size_drew, size_drewN] at s6
  obtain ⟨za_6, zb_6, zc_6, zd_6, ra_6, rb_6, rr_6, rc_6, rd_6, rx_6, bb_6⟩ : Blk w6 (w.heap.size) 24 [.slice Aa na ca, .int .i64 ((xa.length : Nat) : Int)] ∧ Blk w6 (w.heap.size + 1) 24 [.slice Ab nb cb, .int .i64 ((xb.length : Nat) : Int)] ∧ Blk w6 (w4.heap.size) 24 [.slice Ac mc cc, .int .i64 ((xc.length : Nat) : Int)] ∧ Blk w6 (w5.heap.size) 24 [.slice Ad md cd, .int .i64 ((xd.length : Nat) : Int)] ∧ RowIn .u8 w6 (0) (w.heap.size) Aa na (pack xa) ∧ RowIn .u8 w6 (0) (w.heap.size) Ab nb (pack xb) ∧ RowIn .u8 w6 (0) (w.heap.size) Ar nr xsr ∧ RowIn .u8 w6 (w3.heap.size + 0) (w4.heap.size) Ac mc (pack xc) ∧ RowIn .u8 w6 (w4.heap.size + 1) (w5.heap.size) Ad md (pack xd) ∧ RowIn .u8 w6 (w5.heap.size + 1) (w6.heap.size) Ax mx (pack xx) ∧ Below w.heap.size w w6 := by
    refine ⟨?_, ?_, ?_, ?_, ?_, ?_, ?_, ?_, ?_, ?_, ?_⟩
    all_goals repeat' (first | (with_reducible assumption) | (with_reducible exact Below.refl _ _) | (with_reducible refine Blk.after ?_ b6) | (with_reducible refine RowIn.belowS ?_ b6) | (with_reducible refine Below.after ?_ b6 ?_) | (with_reducible refine Blk.drewN ?_ _) | (with_reducible refine RowIn.drewN ?_ _) | (with_reducible refine below_drewN ?_ _) | (with_reducible refine Blk.drew ?_) | (with_reducible refine RowIn.drew ?_) | (with_reducible refine Below.drew ?_) | (with_reducible refine Blk.new' ?_ ?_ <;> first | (with_reducible rfl) | (simp; done)) | (with_reducible refine Blk.alloc ?_ _) | (with_reducible refine RowIn.alloc ?_ _) | (with_reducible refine Below.alloc ?_ ?_ _) | (with_reducible apply Blk.set') | (with_reducible refine Blk.far' ?_ ?_ _) | (with_reducible refine RowIn.far' ?_ ?_ _) | (with_reducible refine Below.far' ?_ ?_ _) | rfl | omega | go_size)
  clear za_5 zb_5 zc_5 ra_5 rb_5 rr_5 rc_5 rd_5 bb_5 ka_5 fa_5 la_5 kb_5 fb_5 lb_5 kc_5 fc_5 lc_5 b6
  have ka_6 := za_6.cell; have fa_6 := za_6.frozen; have la_6 := za_6.lt
  have kb_6 := zb_6.cell; have fb_6 := zb_6.frozen; have lb_6 := zb_6.lt
  have kc_6 := zc_6.cell; have fc_6 := zc_6.frozen; have lc_6 := zc_6.lt
  have kd_6 := zd_6.cell; have fd_6 := zd_6.frozen; have ld_6 := zd_6.lt
  clear rx
  go_wp2_with fail
  refine (rcut_ret Aa na ca xa p q _ (by exact (ra_6.row.alloc _)) hca hla).mono ?_
  rintro e w7 ⟨Ay, my, cy, xy, rfl, hcy, ry, HXy, b7⟩
  replace ry := ry.mono (lo' := w6.heap.size + 1) (by go_size) (Nat.le_refl _)
  have s7 := b7.size
  try simp only [World.size_alloc, World.size_setCell, World.size_drew, size_drewN] at s7
  obtain ⟨za_7, zb_7, zc_7, zd_7, zx_7, ra_7, rb_7, rr_7, rc_7, rd_7, rx_7, ry_7, bb_7⟩ : Blk w7 (w.heap.size) 24 [.slice Aa na ca, .int .i64 ((xa.length : Nat) : Int)] ∧ Blk w7 (w.heap.size + 1) 24 [.slice Ab nb cb, .int .i64 ((xb.length : Nat) : Int)] ∧ Blk w7 (w4.heap.size) 24 [.slice Ac mc cc, .int .i64 ((xc.length : Nat) : Int)] ∧ Blk w7 (w5.heap.size) 24 [.slice Ad md cd, .int .i64 ((xd.length : Nat) : Int)] ∧ Blk w7 (w6.heap.size) 24 [.slice Ax mx cx, .int .i64 ((xx.length : Nat) : Int)] ∧ RowIn .u8 w7 (0) (w.heap.size) Aa na (pack xa) ∧ RowIn .u8 w7 (0) (w.heap.size) Ab nb (pack xb) ∧ RowIn .u8 w7 (0) (w.heap.size) Ar nr xsr ∧ RowIn .u8 w7 (w3.heap.size + 0) (w4.heap.size) Ac mc (pack xc) ∧ RowIn .u8 w7 (w4.heap.size + 1) (w5.heap.size) Ad md (pack xd) ∧ RowIn .u8 w7 (w5.heap.size + 1) (w6.heap.size) Ax mx (pack xx) ∧ RowIn .u8 w7 (w6.heap.size + 1) (w7.heap.size) Ay my (pack xy) ∧ Below w.heap.size w w7 := by
    refine ⟨?_, ?_, ?_, ?_, ?_, ?_, ?_, ?_, ?_, ?_, ?_, ?_, ?_⟩
    all_goals repeat' (first | (with_reducible assumption) | (with_reducible exact Below.refl _ _) | (with_reducible refine Blk.after ?_ b7) | (with_reducible refine RowIn.belowS ?_ b7) | (with_reducible refine Below.after ?_ b7 ?_) | (with_reducible refine Blk.drewN ?_ _) | (with_reducible refine RowIn.drewN ?_ _) | (with_reducible refine below_drewN ?_ _) | (with_reducible refine Blk.drew ?_) | (with_reducible refine RowIn.drew ?_) | (with_reducible refine Below.drew ?_) | (with_reducible refine Blk.new' ?_ ?_ <;> first | (with_reducible rfl) | (simp; done)) | (with_reducible refine Blk.alloc ?_ _) | (with_reducible refine RowIn.alloc ?_ _) | (with_reducible refine Below.alloc ?_ ?_ _) | (with_reducible apply Blk.set') | (with_reducible refine Blk.far' ?_ ?_ _) | (with_reducible refine RowIn.far' ?_ ?_ _) | (with_reducible refine Below.far' ?_ ?_ _) | rfl | omega | go_size)
  clear za_6 zb_6 zc_6 zd_6 ra_6 rb_6 rr_6 rc_6 rd_6 rx_6 bb_6 ka_6 fa_6 la_6 kb_6 fb_6 lb_6 kc_6 fc_6 lc_6 kd_6 fd_6 ld_6 b7
  have ka_7 := za_7.cell; have fa_7 := za_7.frozen; have la_7 := za_7.lt
  have kb_7 := zb_7.cell; have fb_7 := zb_7.frozen; have lb_7 := zb_7.lt
  have kc_7 := zc_7.cell; have fc_7 := zc_7.frozen; have lc_7 := zc_7.lt
  have kd_7 := zd_7.cell; have fd_7 := zd_7.frozen; have ld_7 := zd_7.lt
  have kx_7 := zx_7.cell; have fx_7 := zx_7.frozen; have lx_7 := zx_7.lt
  clear ry
  go_wp2_with fail
  refine (bof_ret Ar nr cr xsr _ (by exact (rr_7.row.alloc _)) hxr hcr).mono ?_
  rintro e w8 ⟨Au, mu, cu, xu, rfl, hcu, ru, HXu, b8⟩
  replace ru := ru.mono (lo' := w7.heap.size + 1) (by go_size) (Nat.le_refl _)
  have s8 := b8.size
  try simp only [World.size_alloc, World.size_setCell, World.size_drew, size_drewN] at s8
  obtain ⟨za_8, zb_8, zc_8, zd_8, zx_8, zy_8, ra_8, rb_8, rr_8, rc_8, rd_8, rx_8, ry_8, ru_8, bb_8⟩ : Blk w8 (w.heap.size) 24 [.slice Aa na ca, .int .i64 ((xa.length : Nat) : Int)] ∧ Blk w8 (w.heap.size + 1) 24 [.slice Ab nb cb, .int .i64 ((xb.length : Nat) : Int)] ∧ Blk w8 (w4.heap.size) 24 [.slice Ac mc cc, .int .i64 ((xc.length : Nat) : Int)] ∧ Blk w8 (w5.heap.size) 24 [.slice Ad md cd, .int .i64 ((xd.length : Nat) : Int)] ∧ Blk w8 (w6.heap.size) 24 [.slice Ax mx cx, .int .i64 ((xx.length : Nat) : Int)] ∧ Blk w8 (w7.heap.size) 24 [.slice Ay my cy, .int .i64 ((xy.length : Nat) : Int)] ∧ RowIn .u8 w8 (0) (w.heap.size) Aa na (pack xa) ∧ RowIn .u8 w8 (0) (w.heap.size) Ab nb (pack xb) ∧ RowIn .u8 w8 (0) (w.heap.size) Ar nr xsr ∧ RowIn .u8 w8 (w3.heap.size + 0) (w4.heap.size) Ac mc (pack xc) ∧ RowIn .u8 w8 (w4.heap.size + 1) (w5.heap.size) Ad md (pack xd) ∧ RowIn .u8 w8 (w5.heap.size + 1) (w6.heap.size) Ax mx (pack xx) ∧ RowIn .u8 w8 (w6.heap.size + 1) (w7.heap.size) Ay my (pack xy) ∧ RowIn .u8 w8 (w7.heap.size + 1) (w8.heap.size) Au mu (pack xu) ∧ Below w.heap.size w w8 := by
    refine ⟨?_, ?_, ?_, ?_, ?_, ?_, ?_, ?_, ?_, ?_, ?_, ?_, ?_, ?_, ?_⟩
    all_goals repeat' (first | (with_reducible assumption) | (with_reducible exact Below.refl _ _) | (with_reducible refine Blk.after ?_ b8) | (with_reducible refine RowIn.belowS ?_ b8) | (with_reducible refine Below.after ?_ b8 ?_) | (with_reducible refine Blk.drewN ?_ _) | (with_reducible refine RowIn.drewN ?_ _) | (with_reducible refine below_drewN ?_ _) | (with_reducible refine Blk.drew ?_) | (with_reducible refine RowIn.drew ?_) | (with_reducible refine Below.drew ?_) | (with_reducible refine Blk.new' ?_ ?_ <;> first | (with_reducible rfl) | (simp; done)) | (with_reducible refine Blk.alloc ?_ _) | (with_reducible refine RowIn.alloc ?_ _) | (with_reducible refine Below.alloc ?_ ?_ _) | (with_reducible apply Blk.set') | (with_reducible refine Blk.far' ?_ ?_ _) | (with_reducible refine RowIn.far' ?_ ?_ _) | (with_reducible refine Below.far' ?_ ?_ _) | rfl | omega | go_size)
  clear za_7 zb_7 zc_7 zd_7 zx_7 ra_7 rb_7 rr_7 rc_7 rd_7 rx_7 ry_7 bb_7 ka_7 fa_7 la_7 kb_7 fb_7 lb_7 kc_7 fc_7 lc_7 kd_7 fd_7 ld_7 kx_7 fx_7 lx_7 b8
  have ka_8 := za_8.cell; have fa_8 := za_8.frozen; have la_8 := za_8.lt
  have kb_8 := zb_8.cell; have fb_8 := zb_8.frozen; have lb_8 := zb_8.lt
  have kc_8 := zc_8.cell; have fc_8 := zc_8.frozen; have lc_8 := zc_8.lt
  have kd_8 := zd_8.cell; have fd_8 := zd_8.frozen; have ld_8 := zd_8.lt
  have kx_8 := zx_8.cell; have fx_8 := zx_8.frozen; have lx_8 := zx_8.lt
  have ky_8 := zy_8.cell; have fy_8 := zy_8.frozen; have ly_8 := zy_8.lt
  clear ru
  go_wp2_with fail
  refine (rof_ret Ar nr cr xsr _ (by exact (rr_8.row.alloc _)) hxr hcr).mono ?_
  rintro e w9 ⟨Av, mv, cv, xv, rfl, hcv, rv, HXv, b9⟩
  replace rv := rv.mono (lo' := w8.heap.size + 1) (by go_size) (Nat.le_refl _)
  have s9 := b9.size
  try simp only [World.size_alloc, World.size_setCell, World.size_drew, size_drewN] at s9
  obtain ⟨za_9, zb_9, zc_9, zd_9, zx_9, zy_9, zu_9, ra_9, rb_9, rr_9, rc_9, rd_9, rx_9, ry_9, ru_9, rv_9, bb_9⟩ : Blk w9 (w.heap.size) 24 [.slice Aa na ca, .int .i64 ((xa.length : Nat) : Int)] ∧ Blk w9 (w.heap.size + 1) 24 [.slice Ab nb cb, .int .i64 ((xb.length : Nat) : Int)] ∧ Blk w9 (w4.heap.size) 24 [.slice Ac mc cc, .int .i64 ((xc.length : Nat) : Int)] ∧ Blk w9 (w5.heap.size) 24 [.slice Ad md cd, .int .i64 ((xd.length : Nat) : Int)] ∧ Blk w9 (w6.heap.size) 24 [.slice Ax mx cx, .int .i64 ((xx.length : Nat) : Int)] ∧ Blk w9 (w7.heap.size) 24 [.slice Ay my cy, .int .i64 ((xy.length : Nat) : Int)] ∧ Blk w9 (w8.heap.size) 24 [.slice Au mu cu, .int .i64 ((xu.length : Nat) : Int)] ∧ RowIn .u8 w9 (0) (w.heap.size) Aa na (pack xa) ∧ RowIn .u8 w9 (0) (w.heap.size) Ab nb (pack xb) ∧ RowIn .u8 w9 (0) (w.heap.size) Ar nr xsr ∧ RowIn .u8 w9 (w3.heap.size + 0) (w4.heap.size) Ac mc (pack xc) ∧ RowIn .u8 w9 (w4.heap.size + 1) (w5.heap.size) Ad md (pack xd) ∧ RowIn .u8 w9 (w5.heap.size + 1) (w6.heap.size) Ax mx (pack xx) ∧ RowIn .u8 w9 (w6.heap.size + 1) (w7.heap.size) Ay my (pack xy) ∧ RowIn .u8 w9 (w7.heap.size + 1) (w8.heap.size) Au mu (pack xu) ∧ RowIn .u8 w9 (w8.heap.size + 1) (w9.heap.size) Av mv (pack xv) ∧ Below w.heap.size w w9 := by
    refine ⟨?_, ?_, ?_, ?_, ?_, ?_, ?_, ?_, ?_, ?_, ?_, ?_, ?_, ?_, ?_, ?_, ?_⟩
    all_goals repeat' (first | (with_reducible assumption) | (with_reducible exact Below.refl _ _) | (with_reducible refine Blk.after ?_ b9) | (with_reducible refine RowIn.belowS ?_ b9) | (with_reducible refine Below.after ?_ b9 ?_) | (with_reducible refine Blk.drewN ?_ _) | (with_reducible refine RowIn.drewN ?_ _) | (with_reducible refine below_drewN ?_ _) | (with_reducible refine Blk.drew ?_) | (with_reducible refine RowIn.drew ?_) | (with_reducible refine Below.drew ?_) | (with_reducible refine Blk.new' ?_ ?_ <;> first | (with_reducible rfl) | (simp; done)) | (with_reducible refine Blk.alloc ?_ _) | (with_reducible refine RowIn.alloc ?_ _) | (with_reducible refine Below.alloc ?_ ?_ _) | (with_reducible apply Blk.set') | (with_reducible refine Blk.far' ?_ ?_ _) | (with_reducible refine RowIn.far' ?_ ?_ _) | (with_reducible refine Below.far' ?_ ?_ _) | rfl | omega | go_size)
  clear za_8 zb_8 zc_8 zd_8 zx_8 zy_8 ra_8 rb_8 rr_8 rc_8 rd_8 rx_8 ry_8 ru_8 bb_8 ka_8 fa_8 la_8 kb_8 fb_8 lb_8 kc_8 fc_8 lc_8 kd_8 fd_8 ld_8 kx_8 fx_8 lx_8 ky_8 fy_8 ly_8 b9
  have ka_9 := za_9.cell; have fa_9 := za_9.frozen; have la_9 := za_9.lt
  have kb_9 := zb_9.cell; have fb_9 := zb_9.frozen; have lb_9 := zb_9.lt
  have kc_9 := zc_9.cell; have fc_9 := zc_9.frozen; have lc_9 := zc_9.lt
  have kd_9 := zd_9.cell; have fd_9 := zd_9.frozen; have ld_9 := zd_9.lt
  have kx_9 := zx_9.cell; have fx_9 := zx_9.frozen; have lx_9 := zx_9.lt
  have ky_9 := zy_9.cell; have fy_9 := zy_9.frozen; have ly_9 := zy_9.lt
  have ku_9 := zu_9.cell; have fu_9 := zu_9.frozen; have lu_9 := zu_9.lt
  clear rv
  go_wp2_with fail
  refine (balign_ret Aa na ca xa _ (by exact (ra_9.row.alloc _)) hca hla).mono ?_
  rintro e w10 ⟨As, ms, cs, xs, rfl, hcs, rs, HXs, b10⟩
  replace rs := rs.mono (lo' := w9.heap.size + 1) (by go_size) (Nat.le_refl _)
  have s10 := b10.size
  try simp only [World.size_alloc, World.size_setCell, World.size_drew, size_drewN] at s10
  obtain ⟨za_10, zb_10, zc_10, zd_10, zx_10, zy_10, zu_10, zv_10, ra_10, rb_10, rr_10, rc_10, rd_10, rx_10, ry_10, ru_10, rv_10, rs_10, bb_10⟩ : Blk w10 (w.heap.size) 24 [.slice Aa na ca, .int .i64 ((xa.length : Nat) : Int)] ∧ Blk w10 (w.heap.size + 1) 24 [.slice Ab nb cb, .int .i64 ((xb.length : Nat) : Int)] ∧ Blk w10 (w4.heap.size) 24 [.slice Ac mc cc, .int .i64 ((xc.length : Nat) : Int)] ∧ Blk w10 (w5.heap.size) 24 [.slice Ad md cd, .int .i64 ((xd.length : Nat) : Int)] ∧ Blk w10 (w6.heap.size) 24 [.slice Ax mx cx, .int .i64 ((xx.length : Nat) : Int)] ∧ Blk w10 (w7.heap.size) 24 [.slice Ay my cy, .int .i64 ((xy.length : Nat) : Int)] ∧ Blk w10 (w8.heap.size) 24 [.slice Au mu cu, .int .i64 ((xu.length : Nat) : Int)] ∧ Blk w10 (w9.heap.size) 24 [.slice Av mv cv, .int .i64 ((xv.length : Nat) : Int)] ∧ RowIn .u8 w10 (0) (w.heap.size) Aa na (pack xa) ∧ RowIn .u8 w10 (0) (w.heap.size) Ab nb (pack xb) ∧ RowIn .u8 w10 (0) (w.heap.size) Ar nr xsr ∧ RowIn .u8 w10 (w3.heap.size + 0) (w4.heap.size) Ac mc (pack xc) ∧ RowIn .u8 w10 (w4.heap.size + 1) (w5.heap.size) Ad md (pack xd) ∧ RowIn .u8 w10 (w5.heap.size + 1) (w6.heap.size) Ax mx (pack xx) ∧ RowIn .u8 w10 (w6.heap.size + 1) (w7.heap.size) Ay my (pack xy) ∧ RowIn .u8 w10 (w7.heap.size + 1) (w8.heap.size) Au mu (pack xu) ∧ RowIn .u8 w10 (w8.heap.size + 1) (w9.heap.size) Av mv (pack xv) ∧ RowIn .u8 w10 (w9.heap.size + 1) (w10.heap.size) As ms (pack xs) ∧ Below w.heap.size w w10 := by
    refine ⟨?_, ?_, ?_, ?_, ?_, ?_, ?_, ?_, ?_, ?_, ?_, ?_, ?_, ?_, ?_, ?_, ?_, ?_, ?_⟩
    all_goals repeat' (first | (with_reducible assumption) | (with_reducible exact Below.refl _ _) | (with_reducible refine Blk.after ?_ b10) | (with_reducible refine RowIn.belowS ?_ b10) | (with_reducible refine Below.after ?_ b10 ?_) | (with_reducible refine Blk.drewN ?_ _) | (with_reducible refine RowIn.drewN ?_ _) | (with_reducible refine below_drewN ?_ _) | (with_reducible refine Blk.drew ?_) | (with_reducible refine RowIn.drew ?_) | (with_reducible refine Below.drew ?_) | (with_reducible refine Blk.new' ?_ ?_ <;> first | (with_reducible rfl) | (simp; done)) | (with_reducible refine Blk.alloc ?_ _) | (with_reducible refine RowIn.alloc ?_ _) | (with_reducible refine Below.alloc ?_ ?_ _) | (with_reducible apply Blk.set') | (with_reducible refine Blk.far' ?_ ?_ _) | (with_reducible refine RowIn.far' ?_ ?_ _) | (with_reducible refine Below.far' ?_ ?_ _) | rfl | omega | go_size)
  clear za_9 zb_9 zc_9 zd_9 zx_9 zy_9 zu_9 ra_9 rb_9 rr_9 rc_9 rd_9 rx_9 ry_9 ru_9 rv_9 bb_9 ka_9 fa_9 la_9 kb_9 fb_9 lb_9 kc_9 fc_9 lc_9 kd_9 fd_9 ld_9 kx_9 fx_9 lx_9 ky_9 fy_9 ly_9 ku_9 fu_9 lu_9 b10
  have ka_10 := za_10.cell; have fa_10 := za_10.frozen; have la_10 := za_10.lt
  have kb_10 := zb_10.cell; have fb_10 := zb_10.frozen; have lb_10 := zb_10.lt
  have kc_10 := zc_10.cell; have fc_10 := zc_10.frozen; have lc_10 := zc_10.lt
  have kd_10 := zd_10.cell; have fd_10 := zd_10.frozen; have ld_10 := zd_10.lt
  have kx_10 := zx_10.cell; have fx_10 := zx_10.frozen; have lx_10 := zx_10.lt
  have ky_10 := zy_10.cell; have fy_10 := zy_10.frozen; have ly_10 := zy_10.lt
  have ku_10 := zu_10.cell; have fu_10 := zu_10.frozen; have lu_10 := zu_10.lt
  have kv_10 := zv_10.cell; have fv_10 := zv_10.frozen; have lv_10 := zv_10.lt
  clear rs
  go_wp2_with fail
  refine (ralign_ret Aa na ca xa _ (by exact (ra_10.row.alloc _)) hca hla).mono ?_
  rintro e w11 ⟨At, mt, ct, xt, rfl, hct, rt, HXt, b11⟩
  replace rt := rt.mono (lo' := w10.heap.size + 1) (by go_size) (Nat.le_refl _)
  have s11 := b11.size
  try simp only [World.size_alloc, World.size_setCell, World.size_drew, size_drewN] at s11
  obtain ⟨za_11, zb_11, zc_11, zd_11, zx_11, zy_11, zu_11, zv_11, zs_11, ra_11, rb_11, rr_11, rc_11, rd_11, rx_11, ry_11, ru_11, rv_11, rs_11, rt_11, bb_11⟩ : Blk w11 (w.heap.size) 24 [.slice Aa na ca, .int .i64 ((xa.length : Nat) : Int)] ∧ Blk w11 (w.heap.size + 1) 24 [.slice Ab nb cb, .int .i64 ((xb.length : Nat) : Int)] ∧ Blk w11 (w4.heap.size) 24 [.slice Ac mc cc, .int .i64 ((xc.length : Nat) : Int)] ∧ Blk w11 (w5.heap.size) 24 [.slice Ad md cd, .int .i64 ((xd.length : Nat) : Int)] ∧ Blk w11 (w6.heap.size) 24 [.slice Ax mx cx, .int .i64 ((xx.length : Nat) : Int)] ∧ Blk w11 (w7.heap.size) 24 [.slice Ay my cy, .int .i64 ((xy.length : Nat) : Int)] ∧ Blk w11 (w8.heap.size) 24 [.slice Au mu cu, .int .i64 ((xu.length : Nat) : Int)] ∧ Blk w11 (w9.heap.size) 24 [.slice Av mv cv, .int .i64 ((xv.length : Nat) : Int)] ∧ Blk w11 (w10.heap.size) 24 [.slice As ms cs, .int .i64 ((xs.length : Nat) : Int)] ∧ RowIn .u8 w11 (0) (w.heap.size) Aa na (pack xa) ∧ RowIn .u8 w11 (0) (w.heap.size) Ab nb (pack xb) ∧ RowIn .u8 w11 (0) (w.heap.size) Ar nr xsr ∧ RowIn .u8 w11 (w3.heap.size + 0) (w4.heap.size) Ac mc (pack xc) ∧ RowIn .u8 w11 (w4.heap.size + 1) (w5.heap.size) Ad md (pack xd) ∧ RowIn .u8 w11 (w5.heap.size + 1) (w6.heap.size) Ax mx (pack xx) ∧ RowIn .u8 w11 (w6.heap.size + 1) (w7.heap.size) Ay my (pack xy) ∧ RowIn .u8 w11 (w7.heap.size + 1) (w8.heap.size) Au mu (pack xu) ∧ RowIn .u8 w11 (w8.heap.size + 1) (w9.heap.size) Av mv (pack xv) ∧ RowIn .u8 w11 (w9.heap.size + 1) (w10.heap.size) As ms (pack xs) ∧ RowIn .u8 w11 (w10.heap.size + 1) (w11.heap.size) At mt (pack xt) ∧ Below w.heap.size w w11 := by
    refine ⟨?_, ?_, ?_, ?_, ?_, ?_, ?_, ?_, ?_, ?_, ?_, ?_, ?_, ?_, ?_, ?_, ?_, ?_, ?_, ?_, ?_⟩
    all_goals repeat' (first | (with_reducible assumption) | (with_reducible exact Below.refl _ _) | (with_reducible refine Blk.after ?_ b11) | (with_reducible refine RowIn.belowS ?_ b11) | (with_reducible refine Below.after ?_ b11 ?_) | (with_reducible refine Blk.drewN ?_ _) | (with_reducible refine RowIn.drewN ?_ _) | (with_reducible refine below_drewN ?_ _) | (with_reducible refine Blk.drew ?_) | (with_reducible refine RowIn.drew ?_) | (with_reducible refine Below.drew ?_) | (with_reducible refine Blk.new' ?_ ?_ <;> first | (with_reducible rfl) | (simp; done)) | (with_reducible refine Blk.alloc ?_ _) | (with_reducible refine RowIn.alloc ?_ _) | (with_reducible refine Below.alloc ?_ ?_ _) | (with_reducible apply Blk.set') | (with_reducible refine Blk.far' ?_ ?_ _) | (with_reducible refine RowIn.far' ?_ ?_ _) | (with_reducible refine Below.far' ?_ ?_ _) | rfl | omega | go_size)
  clear za_10 zb_10 zc_10 zd_10 zx_10 zy_10 zu_10 zv_10 ra_10 rb_10 rr_10 rc_10 rd_10 rx_10 ry_10 ru_10 rv_10 rs_10 bb_10 ka_10 fa_10 la_10 kb_10 fb_10 lb_10 kc_10 fc_10 lc_10 kd_10 fd_10 ld_10 kx_10 fx_10 lx_10 ky_10 fy_10 ly_10 ku_10 fu_10 lu_10 kv_10 fv_10 lv_10 b11
  have ka_11 := za_11.cell; have fa_11 := za_11.frozen; have la_11 := za_11.lt
  have kb_11 := zb_11.cell; have fb_11 := zb_11.frozen; have lb_11 := zb_11.lt
  have kc_11 := zc_11.cell; have fc_11 := zc_11.frozen; have lc_11 := zc_11.lt
  have kd_11 := zd_11.cell; have fd_11 := zd_11.frozen; have ld_11 := zd_11.lt
  have kx_11 := zx_11.cell; have fx_11 := zx_11.frozen; have lx_11 := zx_11.lt
  have ky_11 := zy_11.cell; have fy_11 := zy_11.frozen; have ly_11 := zy_11.lt
  have ku_11 := zu_11.cell; have fu_11 := zu_11.frozen; have lu_11 := zu_11.lt
  have kv_11 := zv_11.cell; have fv_11 := zv_11.frozen; have lv_11 := zv_11.lt
  have ks_11 := zs_11.cell; have fs_11 := zs_11.frozen; have ls_11 := zs_11.lt
  clear rt
  have HEc : Hid (xc = xd) := by rw [HXc.out, HXd.out]; exact Lib.hid rfl
  go_wp2_with fail
  refine (rsame_bits Ac Ad mc md cc cd xc xd _ (by exact (rc_11.row.alloc _)) (by exact (rd_11.row.alloc _)) HEc.out).mono ?_
  rintro e w12 ⟨rfl, b12⟩
  have s12 := b12.size
  try simp only [World.size_alloc, World.size_setCell, World.size_drew, size_drewN] at s12
  obtain ⟨za_12, zb_12, zc_12, zd_12, zx_12, zy_12, zu_12, zv_12, zs_12, zt_12, ra_12, rb_12, rr_12, rc_12, rd_12, rx_12, ry_12, ru_12, rv_12, rs_12, rt_12, bb_12⟩ : Blk w12 (w.heap.size) 24 [.slice Aa na ca, .int .i64 ((xa.length : Nat) : Int)] ∧ Blk w12 (w.heap.size + 1) 24 [.slice Ab nb cb, .int .i64 ((xb.length : Nat) : Int)] ∧ Blk w12 (w4.heap.size) 24 [.slice Ac mc cc, .int .i64 ((xc.length : Nat) : Int)] ∧ Blk w12 (w5.heap.size) 24 [.slice Ad md cd, .int .i64 ((xd.length : Nat) : Int)] ∧ Blk w12 (w6.heap.size) 24 [.slice Ax mx cx, .int .i64 ((xx.length : Nat) : Int)] ∧ Blk w12 (w7.heap.size) 24 [.slice Ay my cy, .int .i64 ((xy.length : Nat) : Int)] ∧ Blk w12 (w8.heap.size) 24 [.slice Au mu cu, .int .i64 ((xu.length : Nat) : Int)] ∧ Blk w12 (w9.heap.size) 24 [.slice Av mv cv, .int .i64 ((xv.length : Nat) : Int)] ∧ Blk w12 (w10.heap.size) 24 [.slice As ms cs, .int .i64 ((xs.length : Nat) : Int)] ∧ Blk w12 (w11.heap.size) 24 [.slice At mt ct, .int .i64 ((xt.length : Nat) : Int)] ∧ RowIn .u8 w12 (0) (w.heap.size) Aa na (pack xa) ∧ RowIn .u8 w12 (0) (w.heap.size) Ab nb (pack xb) ∧ RowIn .u8 w12 (0) (w.heap.size) Ar nr xsr ∧ RowIn .u8 w12 (w3.heap.size + 0) (w4.heap.size) Ac mc (pack xc) ∧ RowIn .u8 w12 (w4.heap.size + 1) (w5.heap.size) Ad md (pack xd) ∧ RowIn .u8 w12 (w5.heap.size + 1) (w6.heap.size) Ax mx (pack xx) ∧ RowIn .u8 w12 (w6.heap.size + 1) (w7.heap.size) Ay my (pack xy) ∧ RowIn .u8 w12 (w7.heap.size + 1) (w8.heap.size) Au mu (pack xu) ∧ RowIn .u8 w12 (w8.heap.size + 1) (w9.heap.size) Av mv (pack xv) ∧ RowIn .u8 w12 (w9.heap.size + 1) (w10.heap.size) As ms (pack xs) ∧ RowIn .u8 w12 (w10.heap.size + 1) (w11.heap.size) At mt (pack xt) ∧ Below w.heap.size w w12 := by
    refine ⟨?_, ?_, ?_, ?_, ?_, ?_, ?_, ?_, ?_, ?_, ?_, ?_, ?_, ?_, ?_, ?_, ?_, ?_, ?_, ?_, ?_, ?_⟩
    all_goals repeat' (first | (with_reducible assumption) | (with_reducible exact Below.refl _ _) | (with_reducible refine Blk.after ?_ b12) | (with_reducible refine RowIn.belowS ?_ b12) | (with_reducible refine Below.after ?_ b12 ?_) | (with_reducible refine Blk.drewN ?_ _) | (with_reducible refine RowIn.drewN ?_ _) | (with_reducible refine below_drewN ?_ _) | (with_reducible refine Blk.drew ?_) | (with_reducible refine RowIn.drew ?_) | (with_reducible refine Below.drew ?_) | (with_reducible refine Blk.new' ?_ ?_ <;> first | (with_reducible rfl) | (simp; done)) | (with_reducible refine Blk.alloc ?_ _) | (with_reducible refine RowIn.alloc ?_ _) | (with_reducible refine Below.alloc ?_ ?_ _) | (with_reducible apply Blk.set') | (with_reducible refine Blk.far' ?_ ?_ _) | (with_reducible refine RowIn.far' ?_ ?_ _) | (with_reducible refine Below.far' ?_ ?_ _) | rfl | omega | go_size)
  clear za_11 zb_11 zc_11 zd_11 zx_11 zy_11 zu_11 zv_11 zs_11 ra_11 rb_11 rr_11 rc_11 rd_11 rx_11 ry_11 ru_11 rv_11 rs_11 rt_11 bb_11 ka_11 fa_11 la_11 kb_11 fb_11 lb_11 kc_11 fc_11 lc_11 kd_11 fd_11 ld_11 kx_11 fx_11 lx_11 ky_11 fy_11 ly_11 ku_11 fu_11 lu_11 kv_11 fv_11 lv_11 ks_11 fs_11 ls_11 b12
  have ka_12 := za_12.cell; have fa_12 := za_12.frozen; have la_12 := za_12.lt
  have kb_12 := zb_12.cell; have fb_12 := zb_12.frozen; have lb_12 := zb_12.lt
  have kc_12 := zc_12.cell; have fc_12 := zc_12.frozen; have lc_12 := zc_12.lt
  have kd_12 := zd_12.cell; have fd_12 := zd_12.frozen; have ld_12 := zd_12.lt
  have kx_12 := zx_12.cell; have fx_12 := zx_12.frozen; have lx_12 := zx_12.lt
  have ky_12 := zy_12.cell; have fy_12 := zy_12.frozen; have ly_12 := zy_12.lt
  have ku_12 := zu_12.cell; have fu_12 := zu_12.frozen; have lu_12 := zu_12.lt
  have kv_12 := zv_12.cell; have fv_12 := zv_12.frozen; have lv_12 := zv_12.lt
  have ks_12 := zs_12.cell; have fs_12 := zs_12.frozen; have ls_12 := zs_12.lt
  have kt_12 := zt_12.cell; have ft_12 := zt_12.frozen; have lt_12 := zt_12.lt
  have HEx : Hid (xx = xy) := by rw [HXx.out, HXy.out]; exact Lib.hid rfl
  go_wp2_with fail
  refine (rsame_bits Ax Ay mx my cx cy xx xy _ rx_12.row ry_12.row HEx.out).mono ?_
  rintro e w13 ⟨rfl, b13⟩
  have s13 := b13.size
  try simp only [World.size_alloc, World.size_setCell, World.size_drew, size_drewN] at s13
  obtain ⟨za_13, zb_13, zc_13, zd_13, zx_13, zy_13, zu_13, zv_13, zs_13, zt_13, ra_13, rb_13, rr_13, rc_13, rd_13, rx_13, ry_13, ru_13, rv_13, rs_13, rt_13, bb_13⟩ : Blk w13 (w.heap.size) 24 [.slice Aa na ca, .int .i64 ((xa.length : Nat) : Int)] ∧ Blk w13 (w.heap.size + 1) 24 [.slice Ab nb cb, .int .i64 ((xb.length : Nat) : Int)] ∧ Blk w13 (w4.heap.size) 24 [.slice Ac mc cc, .int .i64 ((xc.length : Nat) : Int)] ∧ Blk w13 (w5.heap.size) 24 [.slice Ad md cd, .int .i64 ((xd.length : Nat) : Int)] ∧ Blk w13 (w6.heap.size) 24 [.slice Ax mx cx, .int .i64 ((xx.length : Nat) : Int)] ∧ Blk w13 (w7.heap.size) 24 [.slice Ay my cy, .int .i64 ((xy.length : Nat) : Int)] ∧ Blk w13 (w8.heap.size) 24 [.slice Au mu cu, .int .i64 ((xu.length : Nat) : Int)] ∧ Blk w13 (w9.heap.size) 24 [.slice Av mv cv, .int .i64 ((xv.length : Nat) : Int)] ∧ Blk w13 (w10.heap.size) 24 [.slice As ms cs, .int .i64 ((xs.length : Nat) : Int)] ∧ Blk w13 (w11.heap.size) 24 [.slice At mt ct, .int .i64 ((xt.length : Nat) : Int)] ∧ RowIn .u8 w13 (0) (w.heap.size) Aa na (pack xa) ∧ RowIn .u8 w13 (0) (w.heap.size) Ab nb (pack xb) ∧ RowIn .u8 w13 (0) (w.heap.size) Ar nr xsr ∧ RowIn .u8 w13 (w3.heap.size + 0) (w4.heap.size) Ac mc (pack xc) ∧ RowIn .u8 w13 (w4.heap.size + 1) (w5.heap.size) Ad md (pack xd) ∧ RowIn .u8 w13 (w5.heap.size + 1) (w6.heap.size) Ax mx (pack xx) ∧ RowIn .u8 w13 (w6.heap.size + 1) (w7.heap.size) Ay my (pack xy) ∧ RowIn .u8 w13 (w7.heap.size + 1) (w8.heap.size) Au mu (pack xu) ∧ RowIn .u8 w13 (w8.heap.size + 1) (w9.heap.size) Av mv (pack xv) ∧ RowIn .u8 w13 (w9.heap.size + 1) (w10.heap.size) As ms (pack xs) ∧ RowIn .u8 w13 (w10.heap.size + 1) (w11.heap.size) At mt (pack xt) ∧ Below w.heap.size w w13 := by
    refine ⟨?_, ?_, ?_, ?_, ?_, ?_, ?_, ?_, ?_, ?_, ?_, ?_, ?_, ?_, ?_, ?_, ?_, ?_, ?_, ?_, ?_, ?_⟩
    all_goals repeat' (first | (with_reducible assumption) | (with_reducible exact Below.refl _ _) | (with_reducible refine Blk.after ?_ b13) | (with_reducible refine RowIn.belowS ?_ b13) | (with_reducible refine Below.after ?_ b13 ?_) | (with_reducible refine Blk.drewN ?_ _) | (with_reducible refine RowIn.drewN ?_ _) | (with_reducible refine below_drewN ?_ _) | (with_reducible refine Blk.drew ?_) | (with_reducible refine RowIn.drew ?_) | (with_reducible refine Below.drew ?_) | (with_reducible refine Blk.new' ?_ ?_ <;> first | (with_reducible rfl) | (simp; done)) | (with_reducible refine Blk.alloc ?_ _) | (with_reducible refine RowIn.alloc ?_ _) | (with_reducible refine Below.alloc ?_ ?_ _) | (with_reducible apply Blk.set') | (with_reducible refine Blk.far' ?_ ?_ _) | (with_reducible refine RowIn.far' ?_ ?_ _) | (with_reducible refine Below.far' ?_ ?_ _) | rfl | omega | go_size)
  clear za_12 zb_12 zc_12 zd_12 zx_12 zy_12 zu_12 zv_12 zs_12 zt_12 ra_12 rb_12 rr_12 rc_12 rd_12 rx_12 ry_12 ru_12 rv_12 rs_12 rt_12 bb_12 ka_12 fa_12 la_12 kb_12 fb_12 lb_12 kc_12 fc_12 lc_12 kd_12 fd_12 ld_12 kx_12 fx_12 lx_12 ky_12 fy_12 ly_12 ku_12 fu_12 lu_12 kv_12 fv_12 lv_12 ks_12 fs_12 ls_12 kt_12 ft_12 lt_12 b13
  have ka_13 := za_13.cell; have fa_13 := za_13.frozen; have la_13 := za_13.lt
  have kb_13 := zb_13.cell; have fb_13 := zb_13.frozen; have lb_13 := zb_13.lt
  have kc_13 := zc_13.cell; have fc_13 := zc_13.frozen; have lc_13 := zc_13.lt
  have kd_13 := zd_13.cell; have fd_13 := zd_13.frozen; have ld_13 := zd_13.lt
  have kx_13 := zx_13.cell; have fx_13 := zx_13.frozen; have lx_13 := zx_13.lt
  have ky_13 := zy_13.cell; have fy_13 := zy_13.frozen; have ly_13 := zy_13.lt
  have ku_13 := zu_13.cell; have fu_13 := zu_13.frozen; have lu_13 := zu_13.lt
  have kv_13 := zv_13.cell; have fv_13 := zv_13.frozen; have lv_13 := zv_13.lt
  have ks_13 := zs_13.cell; have fs_13 := zs_13.frozen; have ls_13 := zs_13.lt
  have kt_13 := zt_13.cell; have ft_13 := zt_13.frozen; have lt_13 := zt_13.lt
  have HEu : Hid (xu = xv) := by rw [HXu.out, HXv.out]; exact Lib.hid rfl
  go_wp2_with fail
  refine (rsame_bits Au Av mu mv cu cv xu xv _ ru_13.row rv_13.row HEu.out).mono ?_
  rintro e w14 ⟨rfl, b14⟩
  have s14 := b14.size
  try simp only [World.size_alloc, World.size_setCell, World.size_drew, size_drewN] at s14
  obtain ⟨za_14, zb_14, zc_14, zd_14, zx_14, zy_14, zu_14, zv_14, zs_14, zt_14, ra_14, rb_14, rr_14, rc_14, rd_14, rx_14, ry_14, ru_14, rv_14, rs_14, rt_14, bb_14⟩ : Blk w14 (w.heap.size) 24 [.slice Aa na ca, .int .i64 ((xa.length : Nat) : Int)] ∧ Blk w14 (w.heap.size + 1) 24 [.slice Ab nb cb, .int .i64 ((xb.length : Nat) : Int)] ∧ Blk w14 (w4.heap.size) 24 [.slice Ac mc cc, .int .i64 ((xc.length : Nat) : Int)] ∧ Blk w14 (w5.heap.size) 24 [.slice Ad md cd, .int .i64 ((xd.length : Nat) : Int)] ∧ Blk w14 (w6.heap.size) 24 [.slice Ax mx cx, .int .i64 ((xx.length : Nat) : Int)] ∧ Blk w14 (w7.heap.size) 24 [.slice Ay my cy, .int .i64 ((xy.length : Nat) : Int)] ∧ Blk w14 (w8.heap.size) 24 [.slice Au mu cu, .int .i64 ((xu.length : Nat) : Int)] ∧ Blk w14 (w9.heap.size) 24 [.slice Av mv cv, .int .i64 ((xv.length : Nat) : Int)] ∧ Blk w14 (w10.heap.size) 24 [.slice As ms cs, .int .i64 ((xs.length : Nat) : Int)] ∧ Blk w14 (w11.heap.size) 24 [.slice At mt ct, .int .i64 ((xt.length : Nat) : Int)] ∧ RowIn .u8 w14 (0) (w.heap.size) Aa na (pack xa) ∧ RowIn .u8 w14 (0) (w.heap.size) Ab nb (pack xb) ∧ RowIn .u8 w14 (0) (w.heap.size) Ar nr xsr ∧ RowIn .u8 w14 (w3.heap.size + 0) (w4.heap.size) Ac mc (pack xc) ∧ RowIn .u8 w14 (w4.heap.size + 1) (w5.heap.size) Ad md (pack xd) ∧ RowIn .u8 w14 (w5.heap.size + 1) (w6.heap.size) Ax mx (pack xx) ∧ RowIn .u8 w14 (w6.heap.size + 1) (w7.heap.size) Ay my (pack xy) ∧ RowIn .u8 w14 (w7.heap.size + 1) (w8.heap.size) Au mu (pack xu) ∧ RowIn .u8 w14 (w8.heap.size + 1) (w9.heap.size) Av mv (pack xv) ∧ RowIn .u8 w14 (w9.heap.size + 1) (w10.heap.size) As ms (pack xs) ∧ RowIn .u8 w14 (w10.heap.size + 1) (w11.heap.size) At mt (pack xt) ∧ Below w.heap.size w w14 := by
    refine ⟨?_, ?_, ?_, ?_, ?_, ?_, ?_, ?_, ?_, ?_, ?_, ?_, ?_, ?_, ?_, ?_, ?_, ?_, ?_, ?_, ?_, ?_⟩
    all_goals repeat' (first | (with_reducible assumption) | (with_reducible exact Below.refl _ _) | (with_reducible refine Blk.after ?_ b14) | (with_reducible refine RowIn.belowS ?_ b14) | (with_reducible refine Below.after ?_ b14 ?_) | (with_reducible refine Blk.drewN ?_ _) | (with_reducible refine RowIn.drewN ?_ _) | (with_reducible refine below_drewN ?_ _) | (with_reducible refine Blk.drew ?_) | (with_reducible refine RowIn.drew ?_) | (with_reducible refine Below.drew ?_) | (with_reducible refine Blk.new' ?_ ?_ <;> first | (with_reducible rfl) | (simp; done)) | (with_reducible refine Blk.alloc ?_ _) | (with_reducible refine RowIn.alloc ?_ _) | (with_reducible refine Below.alloc ?_ ?_ _) | (with_reducible apply Blk.set') | (with_reducible refine Blk.far' ?_ ?_ _) | (with_reducible refine RowIn.far' ?_ ?_ _) | (with_reducible refine Below.far' ?_ ?_ _) | rfl | omega | go_size)
  clear za_13 zb_13 zc_13 zd_13 zx_13 zy_13 zu_13 zv_13 zs_13 zt_13 ra_13 rb_13 rr_13 rc_13 rd_13 rx_13 ry_13 ru_13 rv_13 rs_13 rt_13 bb_13 ka_13 fa_13 la_13 kb_13 fb_13 lb_13 kc_13 fc_13 lc_13 kd_13 fd_13 ld_13 kx_13 fx_13 lx_13 ky_13 fy_13 ly_13 ku_13 fu_13 lu_13 kv_13 fv_13 lv_13 ks_13 fs_13 ls_13 kt_13 ft_13 lt_13 b14
  have ka_14 := za_14.cell; have fa_14 := za_14.frozen; have la_14 := za_14.lt
  have kb_14 := zb_14.cell; have fb_14 := zb_14.frozen; have lb_14 := zb_14.lt
  have kc_14 := zc_14.cell; have fc_14 := zc_14.frozen; have lc_14 := zc_14.lt
  have kd_14 := zd_14.cell; have fd_14 := zd_14.frozen; have ld_14 := zd_14.lt
  have kx_14 := zx_14.cell; have fx_14 := zx_14.frozen; have lx_14 := zx_14.lt
  have ky_14 := zy_14.cell; have fy_14 := zy_14.frozen; have ly_14 := zy_14.lt
  have ku_14 := zu_14.cell; have fu_14 := zu_14.frozen; have lu_14 := zu_14.lt
  have kv_14 := zv_14.cell; have fv_14 := zv_14.frozen; have lv_14 := zv_14.lt
  have ks_14 := zs_14.cell; have fs_14 := zs_14.frozen; have ls_14 := zs_14.lt
  have kt_14 := zt_14.cell; have ft_14 := zt_14.frozen; have lt_14 := zt_14.lt
  have HEs : Hid (xs = xt) := by rw [HXs.out, HXt.out]; exact Lib.hid rfl
  go_wp2_with fail
  refine (rsame_bits As At ms mt cs ct xs xt _ rs_14.row rt_14.row HEs.out).mono ?_
  rintro e w15 ⟨rfl, b15⟩
  have s15 := b15.size
  try simp only [World.size_alloc, World.size_setCell, World.size_drew, size_drewN] at s15
  obtain ⟨za_15, zb_15, zc_15, zd_15, zx_15, zy_15, zu_15, zv_15, zs_15, zt_15, ra_15, rb_15, rr_15, rc_15, rd_15, rx_15, ry_15, ru_15, rv_15, rs_15, rt_15, bb_15⟩ : Blk w15 (w.heap.size) 24 [.slice Aa na ca, .int .i64 ((xa.length : Nat) : Int)] ∧ Blk w15 (w.heap.size + 1) 24 [.slice Ab nb cb, .int .i64 ((xb.length : Nat) : Int)] ∧ Blk w15 (w4.heap.size) 24 [.slice Ac mc cc, .int .i64 ((xc.length : Nat) : Int)] ∧ Blk w15 (w5.heap.size) 24 [.slice Ad md cd, .int .i64 ((xd.length : Nat) : Int)] ∧ Blk w15 (w6.heap.size) 24 [.slice Ax mx cx, .int .i64 ((xx.length : Nat) : Int)] ∧ Blk w15 (w7.heap.size) 24 [.slice Ay my cy, .int .i64 ((xy.length : Nat) : Int)] ∧ Blk w15 (w8.heap.size) 24 [.slice Au mu cu, .int .i64 ((xu.length : Nat) : Int)] ∧ Blk w15 (w9.heap.size) 24 [.slice Av mv cv, .int .i64 ((xv.length : Nat) : Int)] ∧ Blk w15 (w10.heap.size) 24 [.slice As ms cs, .int .i64 ((xs.length : Nat) : Int)] ∧ Blk w15 (w11.heap.size) 24 [.slice At mt ct, .int .i64 ((xt.length : Nat) : Int)] ∧ RowIn .u8 w15 (0) (w.heap.size) Aa na (pack xa) ∧ RowIn .u8 w15 (0) (w.heap.size) Ab nb (pack xb) ∧ RowIn .u8 w15 (0) (w.heap.size) Ar nr xsr ∧ RowIn .u8 w15 (w3.heap.size + 0) (w4.heap.size) Ac mc (pack xc) ∧ RowIn .u8 w15 (w4.heap.size + 1) (w5.heap.size) Ad md (pack xd) ∧ RowIn .u8 w15 (w5.heap.size + 1) (w6.heap.size) Ax mx (pack xx) ∧ RowIn .u8 w15 (w6.heap.size + 1) (w7.heap.size) Ay my (pack xy) ∧ RowIn .u8 w15 (w7.heap.size + 1) (w8.heap.size) Au mu (pack xu) ∧ RowIn .u8 w15 (w8.heap.size + 1) (w9.heap.size) Av mv (pack xv) ∧ RowIn .u8 w15 (w9.heap.size + 1) (w10.heap.size) As ms (pack xs) ∧ RowIn .u8 w15 (w10.heap.size + 1) (w11.heap.size) At mt (pack xt) ∧ Below w.heap.size w w15 := by
    refine ⟨?_, ?_, ?_, ?_, ?_, ?_, ?_, ?_, ?_, ?_, ?_, ?_, ?_, ?_, ?_, ?_, ?_, ?_, ?_, ?_, ?_, ?_⟩
    all_goals repeat' (first | (with_reducible assumption) | (with_reducible exact Below.refl _ _) | (with_reducible refine Blk.after ?_ b15) | (with_reducible refine RowIn.belowS ?_ b15) | (with_reducible refine Below.after ?_ b15 ?_) | (with_reducible refine Blk.drewN ?_ _) | (with_reducible refine RowIn.drewN ?_ _) | (with_reducible refine below_drewN ?_ _) | (with_reducible refine Blk.drew ?_) | (with_reducible refine RowIn.drew ?_) | (with_reducible refine Below.drew ?_) | (with_reducible refine Blk.new' ?_ ?_ <;> first | (with_reducible rfl) | (simp; done)) | (with_reducible refine Blk.alloc ?_ _) | (with_reducible refine RowIn.alloc ?_ _) | (with_reducible refine Below.alloc ?_ ?_ _) | (with_reducible apply Blk.set') | (with_reducible refine Blk.far' ?_ ?_ _) | (with_reducible refine RowIn.far' ?_ ?_ _) | (with_reducible refine Below.far' ?_ ?_ _) | rfl | omega | go_size)
  clear za_14 zb_14 zc_14 zd_14 zx_14 zy_14 zu_14 zv_14 zs_14 zt_14 ra_14 rb_14 rr_14 rc_14 rd_14 rx_14 ry_14 ru_14 rv_14 rs_14 rt_14 bb_14 ka_14 fa_14 la_14 kb_14 fb_14 lb_14 kc_14 fc_14 lc_14 kd_14 fd_14 ld_14 kx_14 fx_14 lx_14 ky_14 fy_14 ly_14 ku_14 fu_14 lu_14 kv_14 fv_14 lv_14 ks_14 fs_14 ls_14 kt_14 ft_14 lt_14 b15
  have ka_15 := za_15.cell; have fa_15 := za_15.frozen; have la_15 := za_15.lt
  have kb_15 := zb_15.cell; have fb_15 := zb_15.frozen; have lb_15 := zb_15.lt
  have kc_15 := zc_15.cell; have fc_15 := zc_15.frozen; have lc_15 := zc_15.lt
  have kd_15 := zd_15.cell; have fd_15 := zd_15.frozen; have ld_15 := zd_15.lt
  have kx_15 := zx_15.cell; have fx_15 := zx_15.frozen; have lx_15 := zx_15.lt
  have ky_15 := zy_15.cell; have fy_15 := zy_15.frozen; have ly_15 := zy_15.lt
  have ku_15 := zu_15.cell; have fu_15 := zu_15.frozen; have lu_15 := zu_15.lt
  have kv_15 := zv_15.cell; have fv_15 := zv_15.frozen; have lv_15 := zv_15.lt
  have ks_15 := zs_15.cell; have fs_15 := zs_15.frozen; have ls_15 := zs_15.lt
  have kt_15 := zt_15.cell; have ft_15 := zt_15.frozen; have lt_15 := zt_15.lt
  go_wp2
  go_ret
  refine ⟨rfl, ?_⟩
  repeat' (first | (with_reducible assumption) | (with_reducible exact Below.refl _ _) | (with_reducible refine Blk.drewN ?_ _) | (with_reducible refine RowIn.drewN ?_ _) | (with_reducible refine below_drewN ?_ _) | (with_reducible refine Blk.drew ?_) | (with_reducible refine RowIn.drew ?_) | (with_reducible refine Below.drew ?_) | (with_reducible refine Blk.new' ?_ ?_ <;> first | (with_reducible rfl) | (simp; done)) | (with_reducible refine Blk.alloc ?_ _) | (with_reducible refine RowIn.alloc ?_ _) | (with_reducible refine Below.alloc ?_ ?_ _) | (with_reducible apply Blk.set') | (with_reducible refine Blk.far' ?_ ?_ _) | (with_reducible refine RowIn.far' ?_ ?_ _) | (with_reducible refine Below.far' ?_ ?_ _) | rfl | omega | go_size)


end Go.Proofs.Ytlkgdkefimlmdaa
