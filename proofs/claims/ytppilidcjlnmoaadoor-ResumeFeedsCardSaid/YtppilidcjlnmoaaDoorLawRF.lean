/-
  The walk of ResumeFeeds.
-/
import Derived.Test.YtppilidcjlnmoaaDoorRefFG
import Derived.Test.YtppilidcjlnmoaaDoorRefD
import Derived.Test.YtppilidcjlnmoaaDoorStr
import Derived.Test.YtppilidcjlnmoaaDoorMerge
namespace Go.Proofs.YtppilidcjlnmoaaDoor
open Go.RowKit Cad Cad.Bit Cad.Code
set_option linter.unusedVariables false
set_option linter.unusedSimpArgs false


/-- What Feed and Check answer, the program's and the reference's. -/
theorem feed_both (L p0 p1 q0 q1 N : Int) (m nb : Nat) (xs ys : List Int) (hL : -9223372036854775808 ≤ L ∧ L ≤ 9223372036854775807) (h2 : 0 ≤ q0) (h3 : 0 ≤ q1) (hx : Within 0 255 xs) (hy : Within 0 255 ys) (hnb : nb ≤ 190 ∨ 41000 < nb) :
    ∃ (g : Fed) (er : Int), Hid (∀ q, g = .err q → q ≤ 100) ∧ Hid (∀ vs n2 d2 r2, g = .ok vs n2 d2 r2 → vs.length ≤ 4000) ∧ (er = 0 ∨ er = 8) ∧ (∀ (A : Option Addr) (c : Nat) (W : World) (ha : Row .u8 W A m xs) (hc : m ≤ c ∧ c ≤ 9223372036854775807) (D : Option Addr) (cb : Nat) (hd : Row .u8 W D nb ys) (hdc : nb ≤ cb ∧ cb ≤ 9223372036854775807) (ht : Tab W), Calls Tryd.prog 24 #[.agg #[.int .i64 (L : Int), .int .i64 (p0 : Int), .int .i64 (p1 : Int), .int .u64 (q0 : Int), .int .u64 (q1 : Int), .slice A m c, .int .i64 (N : Int)], .slice D nb cb] W (RetF W g)) ∧
      (∀ (A : Option Addr) (c : Nat) (W : World) (ha : Row .u8 W A m xs) (hc : m ≤ c ∧ c ≤ 9223372036854775807) (D : Option Addr) (cb : Nat) (hd : Row .u8 W D nb ys) (hdc : nb ≤ cb ∧ cb ≤ 9223372036854775807), Calls Tryd.prog 25 #[.agg #[.int .i64 (L : Int), .int .i64 (p0 : Int), .int .i64 (p1 : Int), .int .u64 (q0 : Int), .int .u64 (q1 : Int), .slice A m c, .int .i64 (N : Int)], .slice D nb cb] W (RetF W g)) ∧
      (∀ (A : Option Addr) (c : Nat) (W : World) (ha : Row .u8 W A m xs) (hc : m ≤ c ∧ c ≤ 9223372036854775807) (ht : Tab W), Calls Tryd.prog 26 #[.agg #[.int .i64 (L : Int), .int .i64 (p0 : Int), .int .i64 (p1 : Int), .int .u64 (q0 : Int), .int .u64 (q1 : Int), .slice A m c, .int .i64 (N : Int)]] W (fun e w' => e = .returned (.int .i64 er) ∧ Below W.heap.size W w')) ∧
      (∀ (A : Option Addr) (c : Nat) (W : World) (ha : Row .u8 W A m xs) (hc : m ≤ c ∧ c ≤ 9223372036854775807), Calls Tryd.prog 27 #[.agg #[.int .i64 (L : Int), .int .i64 (p0 : Int), .int .i64 (p1 : Int), .int .u64 (q0 : Int), .int .u64 (q1 : Int), .slice A m c, .int .i64 (N : Int)]] W (fun e w' => e = .returned (.int .i64 er) ∧ Below W.heap.size W w')) := by
  by_cases hs : RS L p0 p1 q0 q1 xs N
  · obtain ⟨n, a0, a1, b0, b1, x, rfl, rfl, rfl, rfl, rfl, rfl, rfl, hxl, hn, hf⟩ := hs
    by_cases hb : nb ≤ 190
    · refine ⟨feed n ⟨a0, a1, b0, b1⟩ (x ++ unpack ys), 0, Lib.hid (fun q hq => by rcases feed_err hf.1 hq with rfl | rfl <;> omega), Lib.hid (fun vs n2 d2 r2 hq => by have := (feed_ok hf.1 hq).2.1; omega), Or.inl rfl, ?_, ?_, ?_, ?_⟩
      · intro A c W ha hc D cb hd hdc ht; exact rfeed_ok n a0 a1 b0 b1 m c A x D nb cb ys W hn hf ha hc hd hdc hy ht (by omega)
      · intro A c W ha hc D cb hd hdc; exact rrfeed_ok n a0 a1 b0 b1 m c A x D nb cb ys W hn hf ha hc hd hdc hy (by omega)
      · intro A c W ha hc ht; exact rsc_val n a0 a1 b0 b1 m c A x 0 W hn hf.1 ha hc hxl ht (Or.inl ⟨rfl, hf⟩)
      · intro A c W ha hc; exact rrc_val n a0 a1 b0 b1 m c A x 0 W hn hf.1 ha hc hxl (Or.inl ⟨rfl, hf⟩)
    · refine ⟨.err 4, 0, Lib.hid (fun q hq => by injection hq; omega), Lib.hid (fun _ _ _ _ hq => by cases hq), Or.inl rfl, ?_, ?_, ?_, ?_⟩
      · intro A c W ha hc D cb hd hdc ht; exact rfeed_many n a0 a1 b0 b1 m c A x D nb cb ys W hn hf ha hc hd hdc hy ht (by omega)
      · intro A c W ha hc D cb hd hdc; exact rrfeed_many n a0 a1 b0 b1 m c A x D nb cb ys W hn hf ha hc hd hdc hy (by omega)
      · intro A c W ha hc ht; exact rsc_val n a0 a1 b0 b1 m c A x 0 W hn hf.1 ha hc hxl ht (Or.inl ⟨rfl, hf⟩)
      · intro A c W ha hc; exact rrc_val n a0 a1 b0 b1 m c A x 0 W hn hf.1 ha hc hxl (Or.inl ⟨rfl, hf⟩)
  · refine ⟨.err 8, 8, Lib.hid (fun q hq => by injection hq; omega), Lib.hid (fun _ _ _ _ hq => by cases hq), Or.inr rfl, ?_, ?_, ?_, ?_⟩
    · intro A c W ha hc D cb hd hdc ht; exact rfeed_none L p0 p1 q0 q1 N m c A xs D nb cb W hL h2 h3 ha hx hc ht hs
    · intro A c W ha hc D cb hd hdc; exact rrfeed_none L p0 p1 q0 q1 N m c A xs D nb cb W hL h2 h3 ha hx hc hs
    · intro A c W ha hc ht; exact rsc_any L p0 p1 q0 q1 N m c A xs W hL h2 h3 ha hx hc ht hs
    · intro A c W ha hc; exact rrc_any L p0 p1 q0 q1 N m c A xs W hL h2 h3 ha hx hc hs


set_option maxRecDepth 100000 in
set_option maxHeartbeats 8000000 in
theorem lawResumeFeeds (w : World) (ht : Tab w) (L : Int) (p0 p1 q0 q1 : Int) (hL : -9223372036854775808 ≤ L ∧ L ≤ 9223372036854775807) (hp0 : -9223372036854775808 ≤ p0 ∧ p0 ≤ 9223372036854775807) (hp1 : -9223372036854775808 ≤ p1 ∧ p1 ≤ 9223372036854775807) (hq0 : 0 ≤ q0 ∧ q0 ≤ 18446744073709551615) (hq1 : 0 ≤ q1 ∧ q1 ≤ 18446744073709551615) (As : Option Addr) (ns cs : Nat) (Ns : Int) (xss : List Int) (hAs : RowC .u8 w As ns cs xss) (hxs : Within 0 255 xss) (hNs : -9223372036854775808 ≤ Ns ∧ Ns ≤ 9223372036854775807) (Ab : Option Addr) (nb cb : Nat) (xsb : List Int) (hAb : RowC .u8 w Ab nb cb xsb) (hxb : Within 0 255 xsb) :
    Calls Tryd.prog 4 #[.agg #[.int .i64 (L : Int), .int .i64 (p0 : Int), .int .i64 (p1 : Int), .int .u64 (q0 : Int), .int .u64 (q1 : Int), .slice As ns cs, .int .i64 Ns], .slice Ab nb cb] w fun e w' => e = .returned (.bool true) ∧ Below w.heap.size w w' := by
  have has := hAs.row
  have hcs := hAs.2
  have hris := has.rowIn
  have hab := hAb.row
  have hcb := hAb.2
  have hrib := hab.rowIn
  have HLb := Lib.hid hab.len
  have hti : RowIn .u8 w 0 w.heap.size (some ⟨0, 0, none⟩) 64 dbTab := ht.rowIn
  have HLs := Lib.hid has.len
  by_cases hg : 190 < ns ∧ ns < 41230 ∨ 41350 < ns
  · go_enter Tryd.func4, Tryd.ntmps4
    go_wp2_with fail
    refine (rgreat_yes As ns cs _ _ hg).mono ?_
    rintro e w1 ⟨rfl, b1⟩
    have s1 := b1.size
    try simp only [World.size_alloc, World.size_setCell, World.size_drew, size_drewN] at s1
    obtain ⟨zs_1, rs_1, rb_1, rt_1, bb_1⟩ : Blk w1 (w.heap.size) 40 [.int .i64 (L : Int), .int .i64 (p0 : Int), .int .i64 (p1 : Int), .int .u64 (q0 : Int), .int .u64 (q1 : Int), .slice As ns cs, .int .i64 Ns] ∧ RowIn .u8 w1 (0) (w.heap.size) As ns xss ∧ RowIn .u8 w1 (0) (w.heap.size) Ab nb xsb ∧ RowIn .u8 w1 (0) (w.heap.size) (some ⟨0, 0, none⟩) 64 dbTab ∧ Below w.heap.size w w1 := by
      refine ⟨?_, ?_, ?_, ?_, ?_⟩
      all_goals repeat' (first | (with_reducible first | assumption | exact Below.refl _ _ | refine Blk.drewN ?_ _ | refine RowIn.drewN ?_ _ | refine below_drewN ?_ _ | refine Blk.drew ?_ | refine RowIn.drew ?_ | refine Below.drew ?_) | (with_reducible refine Blk.new' ?_ ?_ <;> first | (with_reducible rfl) | (simp; done)) | (with_reducible first | refine Blk.alloc ?_ _ | refine RowIn.alloc ?_ _ | refine Below.alloc ?_ ?_ _ | apply Blk.set' | apply Blk.far' | refine RowIn.far' ?_ ?_ _ | refine Below.far' ?_ ?_ _ | refine Blk.after ?_ b1 | refine RowIn.belowS ?_ b1 | refine Below.after ?_ b1 ?_) | (exact (Eq.refl _ : (_ : List Value) = _)) | omega | go_size)
    clear b1
    have ks_1 := zs_1.cell; have fs_1 := zs_1.frozen; have ls_1 := zs_1.lt
    go_wp2
    go_ret
    refine ⟨rfl, ?_⟩
    repeat' (first | (with_reducible first | assumption | exact Below.refl _ _ | refine Blk.drewN ?_ _ | refine RowIn.drewN ?_ _ | refine below_drewN ?_ _ | refine Blk.drew ?_ | refine RowIn.drew ?_ | refine Below.drew ?_) | (with_reducible refine Blk.new' ?_ ?_ <;> first | (with_reducible rfl) | (simp; done)) | (with_reducible first | refine Blk.alloc ?_ _ | refine RowIn.alloc ?_ _ | refine Below.alloc ?_ ?_ _ | apply Blk.set' | apply Blk.far' | refine RowIn.far' ?_ ?_ _ | refine Below.far' ?_ ?_ _) | (exact (Eq.refl _ : (_ : List Value) = _)) | omega | go_size)
  by_cases hh : 190 < nb ∧ nb ≤ 41000 ∨ 41100 < nb
  · go_enter Tryd.func4, Tryd.ntmps4
    go_wp2_with fail
    refine (rgreat_no As ns cs _ _ hg).mono ?_
    rintro e w1 ⟨rfl, b1⟩
    have s1 := b1.size
    try simp only [World.size_alloc, World.size_setCell, World.size_drew, size_drewN] at s1
    obtain ⟨zs_1, rs_1, rb_1, rt_1, bb_1⟩ : Blk w1 (w.heap.size) 40 [.int .i64 (L : Int), .int .i64 (p0 : Int), .int .i64 (p1 : Int), .int .u64 (q0 : Int), .int .u64 (q1 : Int), .slice As ns cs, .int .i64 Ns] ∧ RowIn .u8 w1 (0) (w.heap.size) As ns xss ∧ RowIn .u8 w1 (0) (w.heap.size) Ab nb xsb ∧ RowIn .u8 w1 (0) (w.heap.size) (some ⟨0, 0, none⟩) 64 dbTab ∧ Below w.heap.size w w1 := by
      refine ⟨?_, ?_, ?_, ?_, ?_⟩
      all_goals repeat' (first | (with_reducible first | assumption | exact Below.refl _ _ | refine Blk.drewN ?_ _ | refine RowIn.drewN ?_ _ | refine below_drewN ?_ _ | refine Blk.drew ?_ | refine RowIn.drew ?_ | refine Below.drew ?_) | (with_reducible refine Blk.new' ?_ ?_ <;> first | (with_reducible rfl) | (simp; done)) | (with_reducible first | refine Blk.alloc ?_ _ | refine RowIn.alloc ?_ _ | refine Below.alloc ?_ ?_ _ | apply Blk.set' | apply Blk.far' | refine RowIn.far' ?_ ?_ _ | refine Below.far' ?_ ?_ _ | refine Blk.after ?_ b1 | refine RowIn.belowS ?_ b1 | refine Below.after ?_ b1 ?_) | (exact (Eq.refl _ : (_ : List Value) = _)) | omega | go_size)
    clear b1
    have ks_1 := zs_1.cell; have fs_1 := zs_1.frozen; have ls_1 := zs_1.lt
    go_wp2_with fail
    refine (r10great_yes Ab nb cb _ hh).mono ?_
    rintro e w2 ⟨rfl, b2⟩
    have s2 := b2.size
    try simp only [World.size_alloc, World.size_setCell, World.size_drew, size_drewN] at s2
    obtain ⟨zs_2, rs_2, rb_2, rt_2, bb_2⟩ : Blk w2 (w.heap.size) 40 [.int .i64 (L : Int), .int .i64 (p0 : Int), .int .i64 (p1 : Int), .int .u64 (q0 : Int), .int .u64 (q1 : Int), .slice As ns cs, .int .i64 Ns] ∧ RowIn .u8 w2 (0) (w.heap.size) As ns xss ∧ RowIn .u8 w2 (0) (w.heap.size) Ab nb xsb ∧ RowIn .u8 w2 (0) (w.heap.size) (some ⟨0, 0, none⟩) 64 dbTab ∧ Below w.heap.size w w2 := by
      refine ⟨?_, ?_, ?_, ?_, ?_⟩
      all_goals repeat' (first | (with_reducible first | assumption | exact Below.refl _ _ | refine Blk.drewN ?_ _ | refine RowIn.drewN ?_ _ | refine below_drewN ?_ _ | refine Blk.drew ?_ | refine RowIn.drew ?_ | refine Below.drew ?_) | (with_reducible refine Blk.new' ?_ ?_ <;> first | (with_reducible rfl) | (simp; done)) | (with_reducible first | refine Blk.alloc ?_ _ | refine RowIn.alloc ?_ _ | refine Below.alloc ?_ ?_ _ | apply Blk.set' | apply Blk.far' | refine RowIn.far' ?_ ?_ _ | refine Below.far' ?_ ?_ _ | refine Blk.after ?_ b2 | refine RowIn.belowS ?_ b2 | refine Below.after ?_ b2 ?_) | (exact (Eq.refl _ : (_ : List Value) = _)) | omega | go_size)
    clear zs_1 rs_1 rb_1 rt_1 bb_1 ks_1 fs_1 ls_1 b2
    have ks_2 := zs_2.cell; have fs_2 := zs_2.frozen; have ls_2 := zs_2.lt
    go_wp2
    go_ret
    refine ⟨rfl, ?_⟩
    repeat' (first | (with_reducible first | assumption | exact Below.refl _ _ | refine Blk.drewN ?_ _ | refine RowIn.drewN ?_ _ | refine below_drewN ?_ _ | refine Blk.drew ?_ | refine RowIn.drew ?_ | refine Below.drew ?_) | (with_reducible refine Blk.new' ?_ ?_ <;> first | (with_reducible rfl) | (simp; done)) | (with_reducible first | refine Blk.alloc ?_ _ | refine RowIn.alloc ?_ _ | refine Below.alloc ?_ ?_ _ | apply Blk.set' | apply Blk.far' | refine RowIn.far' ?_ ?_ _ | refine Below.far' ?_ ?_ _) | (exact (Eq.refl _ : (_ : List Value) = _)) | omega | go_size)
  obtain ⟨g, er, HGE, HGO, her, h1, h2, h3, h4⟩ := feed_both L p0 p1 q0 q1 Ns ns nb xss xsb hL hq0.1 hq1.1 hxs hxb (by omega)
  replace h1 := Lib.hid h1
  replace h2 := Lib.hid h2
  replace h3 := Lib.hid h3
  replace h4 := Lib.hid h4
  go_enter Tryd.func4, Tryd.ntmps4
  go_wp2_with fail
  refine (rgreat_no As ns cs _ _ hg).mono ?_
  rintro e w1 ⟨rfl, b1⟩
  have s1 := b1.size
  try simp only [World.size_alloc, World.size_setCell, World.size_drew, size_drewN] at s1
  obtain ⟨zs_1, rs_1, rb_1, rt_1, bb_1⟩ : Blk w1 (w.heap.size) 40 [.int .i64 (L : Int), .int .i64 (p0 : Int), .int .i64 (p1 : Int), .int .u64 (q0 : Int), .int .u64 (q1 : Int), .slice As ns cs, .int .i64 Ns] ∧ RowIn .u8 w1 (0) (w.heap.size) As ns xss ∧ RowIn .u8 w1 (0) (w.heap.size) Ab nb xsb ∧ RowIn .u8 w1 (0) (w.heap.size) (some ⟨0, 0, none⟩) 64 dbTab ∧ Below w.heap.size w w1 := by
    refine ⟨?_, ?_, ?_, ?_, ?_⟩
    all_goals repeat' (first | (with_reducible first | assumption | exact Below.refl _ _ | refine Blk.drewN ?_ _ | refine RowIn.drewN ?_ _ | refine below_drewN ?_ _ | refine Blk.drew ?_ | refine RowIn.drew ?_ | refine Below.drew ?_) | (with_reducible refine Blk.new' ?_ ?_ <;> first | (with_reducible rfl) | (simp; done)) | (with_reducible first | refine Blk.alloc ?_ _ | refine RowIn.alloc ?_ _ | refine Below.alloc ?_ ?_ _ | apply Blk.set' | apply Blk.far' | refine RowIn.far' ?_ ?_ _ | refine Below.far' ?_ ?_ _ | refine Blk.after ?_ b1 | refine RowIn.belowS ?_ b1 | refine Below.after ?_ b1 ?_) | (exact (Eq.refl _ : (_ : List Value) = _)) | omega | go_size)
  clear b1
  have ks_1 := zs_1.cell; have fs_1 := zs_1.frozen; have ls_1 := zs_1.lt
  go_wp2_with fail
  refine (r10great_no Ab nb cb _ hh).mono ?_
  rintro e w2 ⟨rfl, b2⟩
  have s2 := b2.size
  try simp only [World.size_alloc, World.size_setCell, World.size_drew, size_drewN] at s2
  obtain ⟨zs_2, rs_2, rb_2, rt_2, bb_2⟩ : Blk w2 (w.heap.size) 40 [.int .i64 (L : Int), .int .i64 (p0 : Int), .int .i64 (p1 : Int), .int .u64 (q0 : Int), .int .u64 (q1 : Int), .slice As ns cs, .int .i64 Ns] ∧ RowIn .u8 w2 (0) (w.heap.size) As ns xss ∧ RowIn .u8 w2 (0) (w.heap.size) Ab nb xsb ∧ RowIn .u8 w2 (0) (w.heap.size) (some ⟨0, 0, none⟩) 64 dbTab ∧ Below w.heap.size w w2 := by
    refine ⟨?_, ?_, ?_, ?_, ?_⟩
    all_goals repeat' (first | (with_reducible first | assumption | exact Below.refl _ _ | refine Blk.drewN ?_ _ | refine RowIn.drewN ?_ _ | refine below_drewN ?_ _ | refine Blk.drew ?_ | refine RowIn.drew ?_ | refine Below.drew ?_) | (with_reducible refine Blk.new' ?_ ?_ <;> first | (with_reducible rfl) | (simp; done)) | (with_reducible first | refine Blk.alloc ?_ _ | refine RowIn.alloc ?_ _ | refine Below.alloc ?_ ?_ _ | apply Blk.set' | apply Blk.far' | refine RowIn.far' ?_ ?_ _ | refine Below.far' ?_ ?_ _ | refine Blk.after ?_ b2 | refine RowIn.belowS ?_ b2 | refine Below.after ?_ b2 ?_) | (exact (Eq.refl _ : (_ : List Value) = _)) | omega | go_size)
  clear zs_1 rs_1 rb_1 rt_1 bb_1 ks_1 fs_1 ls_1 b2
  have ks_2 := zs_2.cell; have fs_2 := zs_2.frozen; have ls_2 := zs_2.lt
  have hns : ns ≤ 41350 := by omega
  have hnb : nb ≤ 41100 := by omega
  have s2w : w.heap.size ≤ w2.heap.size := bb_2.size
  go_wp2_with fail
  apply merge5 (fun (Ao : Option Addr) (co : Nat) (ge : Nat) (go : Nat) (wz : World) => Blk wz go 40 [.int .i64 (L : Int), .int .i64 (p0 : Int), .int .i64 (p1 : Int), .int .u64 (q0 : Int), .int .u64 (q1 : Int), .slice As ns cs, .int .i64 Ns] ∧ Own wz w2.heap.size 5 .u8 Ao nb co xsb ∧ w2.heap.size ≤ go ∧ Blk wz (w.heap.size) 40 [.int .i64 (L : Int), .int .i64 (p0 : Int), .int .i64 (p1 : Int), .int .u64 (q0 : Int), .int .u64 (q1 : Int), .slice As ns cs, .int .i64 Ns] ∧ RowIn .u8 wz (0) (w.heap.size) As ns xss ∧ RowIn .u8 wz (0) (w.heap.size) Ab nb xsb ∧ RowIn .u8 wz (0) (w.heap.size) (some ⟨0, 0, none⟩) 64 dbTab ∧ Below w.heap.size w wz ∧ w2.heap.size ≤ wz.heap.size)
  case main =>
    intro key
    have na_0 : w.heap.size ≤ w2.heap.size := by omega
    have nas_0 : w.heap.size ≠ w2.heap.size := by omega
    have nrs_0 : w2.heap.size < 0 ∨ w.heap.size ≤ w2.heap.size := by omega
    have nrb_0 : w2.heap.size < 0 ∨ w.heap.size ≤ w2.heap.size := by omega
    have nrt_0 : w2.heap.size < 0 ∨ w.heap.size ≤ w2.heap.size := by omega
    have na_1 : w.heap.size ≤ w2.heap.size + 1 := by omega
    have nas_1 : w.heap.size ≠ w2.heap.size + 1 := by omega
    have nrs_1 : w2.heap.size + 1 < 0 ∨ w.heap.size ≤ w2.heap.size + 1 := by omega
    have nrb_1 : w2.heap.size + 1 < 0 ∨ w.heap.size ≤ w2.heap.size + 1 := by omega
    have nrt_1 : w2.heap.size + 1 < 0 ∨ w.heap.size ≤ w2.heap.size + 1 := by omega
    go_region_law (refine step_app _ u8E rfl _ _ (by rfl) w2.heap.size _ _ _ [] (by rfl) (by refine Own.drew ?_; first | (refine own_empty' ?_ ?_ <;> first | rfl | (simp; done) | go_size) | (refine Own.alloc ?_ _; refine own_empty' ?_ ?_ <;> first | rfl | (simp; done) | go_size)) _ _ _ xsb (by rfl) (by exact RowIn.row (lo := 0) (hi := w.heap.size) (by repeat' (first | (with_reducible first | assumption | exact Below.refl _ _ | refine Blk.drewN ?_ _ | refine RowIn.drewN ?_ _ | refine below_drewN ?_ _ | refine Blk.drew ?_ | refine RowIn.drew ?_ | refine Below.drew ?_) | (with_reducible refine Blk.new' ?_ ?_ <;> first | (with_reducible rfl) | (simp; done)) | (with_reducible first | refine Blk.alloc ?_ _ | refine RowIn.alloc ?_ _ | refine Below.alloc ?_ ?_ _ | apply Blk.set' | apply Blk.far' | refine RowIn.far' ?_ ?_ _ | refine Below.far' ?_ ?_ _) | (exact (Eq.refl _ : (_ : List Value) = _)) | omega | go_size))) (by omega) (by go_size) ?_; intro Ao co wq ownq hgq hatq
                   simp only [Nat.zero_add, List.nil_append] at ownq
                   have bq : Below w2.heap.size w2 wq := by
                     refine Below.grown ?_ hgq ?_ (fun g e => by simp [blockOf] at e; omega)
                     all_goals repeat' (first | (with_reducible first | assumption | exact Below.refl _ _ | refine Blk.drewN ?_ _ | refine RowIn.drewN ?_ _ | refine below_drewN ?_ _ | refine Blk.drew ?_ | refine RowIn.drew ?_ | refine Below.drew ?_) | (with_reducible refine Blk.new' ?_ ?_ <;> first | (with_reducible rfl) | (simp; done)) | (with_reducible first | refine Blk.alloc ?_ _ | refine RowIn.alloc ?_ _ | refine Below.alloc ?_ ?_ _ | apply Blk.set' | apply Blk.far' | refine RowIn.far' ?_ ?_ _ | refine Below.far' ?_ ?_ _) | (exact (Eq.refl _ : (_ : List Value) = _)) | omega | go_size)
                   have sq := bq.size
                   have sgq := hgq.size
                   try simp only [World.size_alloc, World.size_setCell, World.size_drew, size_drewN] at sgq
                   obtain ⟨zs_q, rs_q, rb_q, rt_q, bb_q⟩ : Blk wq (w.heap.size) 40 [.int .i64 (L : Int), .int .i64 (p0 : Int), .int .i64 (p1 : Int), .int .u64 (q0 : Int), .int .u64 (q1 : Int), .slice As ns cs, .int .i64 Ns] ∧ RowIn .u8 wq (0) (w.heap.size) As ns xss ∧ RowIn .u8 wq (0) (w.heap.size) Ab nb xsb ∧ RowIn .u8 wq (0) (w.heap.size) (some ⟨0, 0, none⟩) 64 dbTab ∧ Below w.heap.size w wq := by
                     refine ⟨?_, ?_, ?_, ?_, ?_⟩
                     all_goals repeat' (first | (with_reducible first | assumption | exact Below.refl _ _ | refine Blk.drewN ?_ _ | refine RowIn.drewN ?_ _ | refine below_drewN ?_ _ | refine Blk.drew ?_ | refine RowIn.drew ?_ | refine Below.drew ?_) | (with_reducible refine Blk.new' ?_ ?_ <;> first | (with_reducible rfl) | (simp; done)) | (with_reducible first | refine Blk.alloc ?_ _ | refine RowIn.alloc ?_ _ | refine Below.alloc ?_ ?_ _ | apply Blk.set' | apply Blk.far4 | apply RowIn.far4 | apply Below.far4 | apply Blk.far2 | apply RowIn.far2 | apply Below.far2 | apply Blk.far' | refine RowIn.far' ?_ ?_ _ | refine Below.far' ?_ ?_ _ | refine Blk.after ?_ bq | refine RowIn.belowS ?_ bq | refine Below.after ?_ bq ?_) | (exact (Eq.refl _ : (_ : List Value) = _)) | omega | go_size)
                   have ks_q := zs_q.cell; have fs_q := zs_q.frozen; have ls_q := zs_q.lt
                   try (have zq1 := Blk.grown (Blk.drew (Blk.alloc (Blk.new' (g := w2.heap.size) (t := 40) (l := [.int .i64 0, .int .i64 0, .int .i64 0, .int .u64 0, .int .u64 0, .slice none 0 0, .int .i64 0]) rfl rfl) _)) hgq (by simp [blockOf]); have kq1 := zq1.cell; have fq1 := zq1.frozen; have lq1 := zq1.lt; have nq1 := ownq.ne_blk zq1 (by decide))
                   try (have zq2 := Blk.grown (Blk.drew (Blk.new' (g := w2.heap.size + 1) (t := 40) (l := [.int .i64 0, .int .i64 0, .int .i64 0, .int .u64 0, .int .u64 0, .slice none 0 0, .int .i64 0]) (by simp) rfl)) hgq (by simp [blockOf]); have kq2 := zq2.cell; have fq2 := zq2.frozen; have lq2 := zq2.lt; have nq2 := ownq.ne_blk zq2 (by decide)))
    all_goals
      refine gen_world (fun wz hwz => ?_)
      first
      | (generalize hg0 : wq.heap.size = go; generalize hg1 : w2.heap.size = ge; refine key Ao co ge go wz ?_; subst hg1; subst hg0; subst hwz; refine ⟨?_, ?_, ?_, ?_, ?_, ?_, ?_, ?_, ?_⟩ <;> ((repeat' (first | (with_reducible assumption) | (with_reducible exact Below.refl _ _) | (with_reducible refine Blk.new' ?_ ?_ <;> first | (with_reducible rfl) | (simp; done)) | (with_reducible refine Blk.alloc ?_ _) | (with_reducible refine RowIn.alloc ?_ _) | (with_reducible refine Below.alloc ?_ ?_ _) | (with_reducible refine Own.alloc ?_ _) | (with_reducible apply Blk.set7) | (with_reducible refine Blk.far7 ?_ ?_) | (with_reducible refine RowIn.far7 ?_ ?_) | (with_reducible refine Below.far7 ?_ ?_) | (with_reducible refine Own.far7 ?_ ?_) | (exact (Eq.refl _ : (_ : List Value) = _)) | omega | go_size)); done))
      | (generalize hg0 : w2.heap.size + 1 = go; generalize hg1 : w2.heap.size = ge; refine key Ao co ge go wz ?_; subst hg1; subst hg0; subst hwz; refine ⟨?_, ?_, ?_, ?_, ?_, ?_, ?_, ?_, ?_⟩ <;> ((repeat' (first | (with_reducible assumption) | (with_reducible exact Below.refl _ _) | (with_reducible refine Blk.new' ?_ ?_ <;> first | (with_reducible rfl) | (simp; done)) | (with_reducible refine Blk.alloc ?_ _) | (with_reducible refine RowIn.alloc ?_ _) | (with_reducible refine Below.alloc ?_ ?_ _) | (with_reducible refine Own.alloc ?_ _) | (with_reducible apply Blk.set7) | (with_reducible refine Blk.far7 ?_ ?_) | (with_reducible refine RowIn.far7 ?_ ?_) | (with_reducible refine Below.far7 ?_ ?_) | (with_reducible refine Own.far7 ?_ ?_) | (exact (Eq.refl _ : (_ : List Value) = _)) | omega | go_size)); done))
      | (generalize hg0 : w2.heap.size + 1 = ge; generalize hg1 : w2.heap.size = go; refine key Ao co ge go wz ?_; subst hg1; subst hg0; subst hwz; refine ⟨?_, ?_, ?_, ?_, ?_, ?_, ?_, ?_, ?_⟩ <;> ((repeat' (first | (with_reducible assumption) | (with_reducible exact Below.refl _ _) | (with_reducible refine Blk.new' ?_ ?_ <;> first | (with_reducible rfl) | (simp; done)) | (with_reducible refine Blk.alloc ?_ _) | (with_reducible refine RowIn.alloc ?_ _) | (with_reducible refine Below.alloc ?_ ?_ _) | (with_reducible refine Own.alloc ?_ _) | (with_reducible apply Blk.set7) | (with_reducible refine Blk.far7 ?_ ?_) | (with_reducible refine RowIn.far7 ?_ ?_) | (with_reducible refine Below.far7 ?_ ?_) | (with_reducible refine Own.far7 ?_ ?_) | (exact (Eq.refl _ : (_ : List Value) = _)) | omega | go_size)); done))
  case k =>
    intro Ao co ge go w3 hF
    obtain ⟨zo0, own3, hgo, zs_3, rs_3, rb_3, rt_3, bb_3, s3⟩ := hF
    clear zs_2 rs_2 rb_2 rt_2 bb_2 ks_2 fs_2 ls_2
    have ks_3 := zs_3.cell; have fs_3 := zs_3.frozen; have ls_3 := zs_3.lt
    have zo_3 := zo0; have ko_3 := zo_3.cell; have fo_3 := zo_3.frozen; have lo_3 := zo_3.lt
    go_wp2_with fail
    refine (rtwin_any As ns cs Ns xss _ (by exact RowIn.row (lo := 0) (hi := w.heap.size) (by repeat' (first | (with_reducible first | assumption | exact Below.refl _ _ | refine Blk.drewN ?_ _ | refine RowIn.drewN ?_ _ | refine below_drewN ?_ _ | refine Blk.drew ?_ | refine RowIn.drew ?_ | refine Below.drew ?_) | (with_reducible refine Blk.new' ?_ ?_ <;> first | (with_reducible rfl) | (simp; done)) | (with_reducible first | refine Blk.alloc ?_ _ | refine RowIn.alloc ?_ _ | refine Below.alloc ?_ ?_ _ | apply Blk.set' | apply Blk.far' | refine RowIn.far' ?_ ?_ _ | refine Below.far' ?_ ?_ _) | (exact (Eq.refl _ : (_ : List Value) = _)) | omega | go_size))) (by omega)).mono ?_
    rintro e w4 ⟨At, ct, rfl, own4, b4⟩
    have own3b := own3.below b4 (Nat.le_refl _)
    have hct := own4.rowC.2
    have hco := own3.rowC.2
    have s4 := b4.size
    try simp only [World.size_alloc, World.size_setCell, World.size_drew, size_drewN] at s4
    obtain ⟨zs_4, zo_4, rs_4, rb_4, rt_4, bb_4⟩ : Blk w4 (w.heap.size) 40 [.int .i64 (L : Int), .int .i64 (p0 : Int), .int .i64 (p1 : Int), .int .u64 (q0 : Int), .int .u64 (q1 : Int), .slice As ns cs, .int .i64 Ns] ∧ Blk w4 (go) 40 [.int .i64 (L : Int), .int .i64 (p0 : Int), .int .i64 (p1 : Int), .int .u64 (q0 : Int), .int .u64 (q1 : Int), .slice As ns cs, .int .i64 Ns] ∧ RowIn .u8 w4 (0) (w.heap.size) As ns xss ∧ RowIn .u8 w4 (0) (w.heap.size) Ab nb xsb ∧ RowIn .u8 w4 (0) (w.heap.size) (some ⟨0, 0, none⟩) 64 dbTab ∧ Below w.heap.size w w4 := by
      refine ⟨?_, ?_, ?_, ?_, ?_, ?_⟩
      all_goals repeat' (first | (with_reducible first | assumption | exact Below.refl _ _ | refine Blk.drewN ?_ _ | refine RowIn.drewN ?_ _ | refine below_drewN ?_ _ | refine Blk.drew ?_ | refine RowIn.drew ?_ | refine Below.drew ?_) | (with_reducible refine Blk.new' ?_ ?_ <;> first | (with_reducible rfl) | (simp; done)) | (with_reducible first | refine Blk.alloc ?_ _ | refine RowIn.alloc ?_ _ | refine Below.alloc ?_ ?_ _ | apply Blk.set' | apply Blk.far' | refine RowIn.far' ?_ ?_ _ | refine Below.far' ?_ ?_ _ | refine Blk.after ?_ b4 | refine RowIn.belowS ?_ b4 | refine Below.after ?_ b4 ?_) | (exact (Eq.refl _ : (_ : List Value) = _)) | omega | go_size)
    clear zs_3 rs_3 rb_3 rt_3 bb_3 s3 ks_3 fs_3 ls_3 zo_3 ko_3 fo_3 lo_3 b4
    have ks_4 := zs_4.cell; have fs_4 := zs_4.frozen; have ls_4 := zs_4.lt
    have ko_4 := zo_4.cell; have fo_4 := zo_4.frozen; have lo_4 := zo_4.lt
    have hne3 : blockOf Ao ≠ some go := own3b.ne_blk zo_4 (by decide)
    have hne4 : blockOf At ≠ some go := own4.ne_blk zo_4 (by decide)
    have own3c := (own3b.far' (i := 5) hne3 (.slice At ns ct)).far' (i := 6) hne3 (.int .i64 Ns)
    have own4c := (own4.far' (i := 5) hne4 (.slice At ns ct)).far' (i := 6) hne4 (.int .i64 Ns)
    have rc0 := own3c.rowIn
    have rt0 := own4c.rowIn
    clear own3c own4c own3b own3 own4
    go_wp2_with fail
    have hrc : RowIn .u8 ((w4.setCell ⟨go, 5, none⟩ (.slice At ns ct)).setCell ⟨go, 6, none⟩ (.int .i64 Ns)) w2.heap.size (((w4.setCell ⟨go, 5, none⟩ (.slice At ns ct)).setCell ⟨go, 6, none⟩ (.int .i64 Ns)).heap.size) Ao nb xsb := rc0
    have hrv : RowIn .u8 ((w4.setCell ⟨go, 5, none⟩ (.slice At ns ct)).setCell ⟨go, 6, none⟩ (.int .i64 Ns)) w3.heap.size (((w4.setCell ⟨go, 5, none⟩ (.slice At ns ct)).setCell ⟨go, 6, none⟩ (.int .i64 Ns)).heap.size) At ns xss := rt0
    clear rc0 rt0
    obtain ⟨hi, hhi⟩ : ∃ hi, hi = ((w4.setCell ⟨go, 5, none⟩ (.slice At ns ct)).setCell ⟨go, 6, none⟩ (.int .i64 Ns)).heap.size := ⟨_, rfl⟩
    rw [← hhi] at hrc hrv
    have hhi2 : hi ≤ w4.heap.size := by rw [hhi]; simp [World.setCell]
    clear hhi
    obtain ⟨w5, hw5⟩ : ∃ w5, w5 = (w4.setCell ⟨go, 5, none⟩ (.slice At ns ct)).setCell ⟨go, 6, none⟩ (.int .i64 Ns) := ⟨_, rfl⟩
    obtain ⟨zs_5, zo_5, rs_5, rb_5, rt_5, rc_5, rv_5, bb_5, s5⟩ : Blk w5 (w.heap.size) 40 [.int .i64 (L : Int), .int .i64 (p0 : Int), .int .i64 (p1 : Int), .int .u64 (q0 : Int), .int .u64 (q1 : Int), .slice As ns cs, .int .i64 Ns] ∧ Blk w5 (go) 40 [.int .i64 (L : Int), .int .i64 (p0 : Int), .int .i64 (p1 : Int), .int .u64 (q0 : Int), .int .u64 (q1 : Int), .slice At ns ct, .int .i64 Ns] ∧ RowIn .u8 w5 (0) (w.heap.size) As ns xss ∧ RowIn .u8 w5 (0) (w.heap.size) Ab nb xsb ∧ RowIn .u8 w5 (0) (w.heap.size) (some ⟨0, 0, none⟩) 64 dbTab ∧ RowIn .u8 w5 (w2.heap.size) (hi) Ao nb xsb ∧ RowIn .u8 w5 (w3.heap.size) (hi) At ns xss ∧ Below w.heap.size w w5 ∧ w4.heap.size ≤ w5.heap.size := by
      rw [hw5]
      refine ⟨?_, ?_, ?_, ?_, ?_, ?_, ?_, ?_, by go_size⟩
      all_goals repeat' (first | (with_reducible first | assumption | exact Below.refl _ _ | refine Blk.drewN ?_ _ | refine RowIn.drewN ?_ _ | refine below_drewN ?_ _ | refine Blk.drew ?_ | refine RowIn.drew ?_ | refine Below.drew ?_) | (with_reducible refine Blk.new' ?_ ?_ <;> first | (with_reducible rfl) | (simp; done)) | (with_reducible first | refine Blk.alloc ?_ _ | refine RowIn.alloc ?_ _ | refine Below.alloc ?_ ?_ _ | apply Blk.set' | apply Blk.far' | refine RowIn.far' ?_ ?_ _ | refine Below.far' ?_ ?_ _) | (exact (Eq.refl _ : (_ : List Value) = _)) | omega | go_size)
    rw [← hw5]
    clear hw5
    clear zs_4 zo_4 rs_4 rb_4 rt_4 bb_4 ks_4 fs_4 ls_4 ko_4 fo_4 lo_4
    have ks_5 := zs_5.cell; have fs_5 := zs_5.frozen; have ls_5 := zs_5.lt
    have ko_5 := zo_5.cell; have fo_5 := zo_5.frozen; have lo_5 := zo_5.lt
    clear hrc hrv
    have hg100 := HGE.out
    have hgo4 := HGO.out
    clear HGE HGO
    cases g with
    | err q =>
      rcases her with rfl | rfl
      · refine (h1.out At ct _ (by exact RowIn.row (lo := w3.heap.size) (hi := hi) (by repeat' (first | (with_reducible first | assumption | exact Below.refl _ _ | refine Blk.drewN ?_ _ | refine RowIn.drewN ?_ _ | refine below_drewN ?_ _ | refine Blk.drew ?_ | refine RowIn.drew ?_ | refine Below.drew ?_) | (with_reducible refine Blk.new' ?_ ?_ <;> first | (with_reducible rfl) | (simp; done)) | (with_reducible first | refine Blk.alloc ?_ _ | refine RowIn.alloc ?_ _ | refine Below.alloc ?_ ?_ _ | apply Blk.set' | apply Blk.far' | refine RowIn.far' ?_ ?_ _ | refine Below.far' ?_ ?_ _) | (exact (Eq.refl _ : (_ : List Value) = _)) | omega | go_size))) hct Ao co (by exact RowIn.row (lo := w2.heap.size) (hi := hi) (by repeat' (first | (with_reducible first | assumption | exact Below.refl _ _ | refine Blk.drewN ?_ _ | refine RowIn.drewN ?_ _ | refine below_drewN ?_ _ | refine Blk.drew ?_ | refine RowIn.drew ?_ | refine Below.drew ?_) | (with_reducible refine Blk.new' ?_ ?_ <;> first | (with_reducible rfl) | (simp; done)) | (with_reducible first | refine Blk.alloc ?_ _ | refine RowIn.alloc ?_ _ | refine Below.alloc ?_ ?_ _ | apply Blk.set' | apply Blk.far' | refine RowIn.far' ?_ ?_ _ | refine Below.far' ?_ ?_ _) | (exact (Eq.refl _ : (_ : List Value) = _)) | omega | go_size))) hco (by exact RowIn.row (lo := 0) (hi := w.heap.size) (by repeat' (first | (with_reducible first | assumption | exact Below.refl _ _ | refine Blk.drewN ?_ _ | refine RowIn.drewN ?_ _ | refine below_drewN ?_ _ | refine Blk.drew ?_ | refine RowIn.drew ?_ | refine Below.drew ?_) | (with_reducible refine Blk.new' ?_ ?_ <;> first | (with_reducible rfl) | (simp; done)) | (with_reducible first | refine Blk.alloc ?_ _ | refine RowIn.alloc ?_ _ | refine Below.alloc ?_ ?_ _ | apply Blk.set' | apply Blk.far' | refine RowIn.far' ?_ ?_ _ | refine Below.far' ?_ ?_ _) | (exact (Eq.refl _ : (_ : List Value) = _)) | omega | go_size)))).mono ?_
        rintro e w6 ⟨b6, hres⟩
        have hres2 : e = _ := hres
        subst hres2
        clear hres
        have s6 := b6.size
        try simp only [World.size_alloc, World.size_setCell, World.size_drew, size_drewN] at s6
        obtain ⟨zs_6, zo_6, rs_6, rb_6, rt_6, rc_6, rv_6, bb_6⟩ : Blk w6 (w.heap.size) 40 [.int .i64 (L : Int), .int .i64 (p0 : Int), .int .i64 (p1 : Int), .int .u64 (q0 : Int), .int .u64 (q1 : Int), .slice As ns cs, .int .i64 Ns] ∧ Blk w6 (go) 40 [.int .i64 (L : Int), .int .i64 (p0 : Int), .int .i64 (p1 : Int), .int .u64 (q0 : Int), .int .u64 (q1 : Int), .slice At ns ct, .int .i64 Ns] ∧ RowIn .u8 w6 (0) (w.heap.size) As ns xss ∧ RowIn .u8 w6 (0) (w.heap.size) Ab nb xsb ∧ RowIn .u8 w6 (0) (w.heap.size) (some ⟨0, 0, none⟩) 64 dbTab ∧ RowIn .u8 w6 (w2.heap.size) (hi) Ao nb xsb ∧ RowIn .u8 w6 (w3.heap.size) (hi) At ns xss ∧ Below w.heap.size w w6 := by
          refine ⟨?_, ?_, ?_, ?_, ?_, ?_, ?_, ?_⟩
          all_goals repeat' (first | (with_reducible first | assumption | exact Below.refl _ _ | refine Blk.drewN ?_ _ | refine RowIn.drewN ?_ _ | refine below_drewN ?_ _ | refine Blk.drew ?_ | refine RowIn.drew ?_ | refine Below.drew ?_) | (with_reducible refine Blk.new' ?_ ?_ <;> first | (with_reducible rfl) | (simp; done)) | (with_reducible first | refine Blk.alloc ?_ _ | refine RowIn.alloc ?_ _ | refine Below.alloc ?_ ?_ _ | apply Blk.set' | apply Blk.far' | refine RowIn.far' ?_ ?_ _ | refine Below.far' ?_ ?_ _ | refine Blk.after ?_ b6 | refine RowIn.belowS ?_ b6 | refine Below.after ?_ b6 ?_) | (exact (Eq.refl _ : (_ : List Value) = _)) | omega | go_size)
        clear zs_5 zo_5 rs_5 rb_5 rt_5 rc_5 rv_5 bb_5 ks_5 fs_5 ls_5 ko_5 fo_5 lo_5 b6
        have ks_6 := zs_6.cell; have fs_6 := zs_6.frozen; have ls_6 := zs_6.lt
        have ko_6 := zo_6.cell; have fo_6 := zo_6.frozen; have lo_6 := zo_6.lt
        go_wp2_with fail
        refine (h2.out As cs _ (by exact RowIn.row (lo := 0) (hi := w.heap.size) (by repeat' (first | (with_reducible first | assumption | exact Below.refl _ _ | refine Blk.drewN ?_ _ | refine RowIn.drewN ?_ _ | refine below_drewN ?_ _ | refine Blk.drew ?_ | refine RowIn.drew ?_ | refine Below.drew ?_) | (with_reducible refine Blk.new' ?_ ?_ <;> first | (with_reducible rfl) | (simp; done)) | (with_reducible first | refine Blk.alloc ?_ _ | refine RowIn.alloc ?_ _ | refine Below.alloc ?_ ?_ _ | apply Blk.set' | apply Blk.far' | refine RowIn.far' ?_ ?_ _ | refine Below.far' ?_ ?_ _) | (exact (Eq.refl _ : (_ : List Value) = _)) | omega | go_size))) hcs Ab cb (by exact RowIn.row (lo := 0) (hi := w.heap.size) (by repeat' (first | (with_reducible first | assumption | exact Below.refl _ _ | refine Blk.drewN ?_ _ | refine RowIn.drewN ?_ _ | refine below_drewN ?_ _ | refine Blk.drew ?_ | refine RowIn.drew ?_ | refine Below.drew ?_) | (with_reducible refine Blk.new' ?_ ?_ <;> first | (with_reducible rfl) | (simp; done)) | (with_reducible first | refine Blk.alloc ?_ _ | refine RowIn.alloc ?_ _ | refine Below.alloc ?_ ?_ _ | apply Blk.set' | apply Blk.far' | refine RowIn.far' ?_ ?_ _ | refine Below.far' ?_ ?_ _) | (exact (Eq.refl _ : (_ : List Value) = _)) | omega | go_size))) hcb).mono ?_
        rintro e w7 ⟨b7, hres⟩
        have hres2 : e = _ := hres
        subst hres2
        clear hres
        have s7 := b7.size
        try simp only [World.size_alloc, World.size_setCell, World.size_drew, size_drewN] at s7
        obtain ⟨zs_7, zo_7, zx_7, rs_7, rb_7, rt_7, rc_7, rv_7, bb_7⟩ : Blk w7 (w.heap.size) 40 [.int .i64 (L : Int), .int .i64 (p0 : Int), .int .i64 (p1 : Int), .int .u64 (q0 : Int), .int .u64 (q1 : Int), .slice As ns cs, .int .i64 Ns] ∧ Blk w7 (go) 40 [.int .i64 (L : Int), .int .i64 (p0 : Int), .int .i64 (p1 : Int), .int .u64 (q0 : Int), .int .u64 (q1 : Int), .slice At ns ct, .int .i64 Ns] ∧ Blk w7 (w6.heap.size) 40 [.int .i64 0, .int .i64 0, .int .i64 0, .int .u64 0, .int .u64 0, .slice none 0 0, .int .i64 0] ∧ RowIn .u8 w7 (0) (w.heap.size) As ns xss ∧ RowIn .u8 w7 (0) (w.heap.size) Ab nb xsb ∧ RowIn .u8 w7 (0) (w.heap.size) (some ⟨0, 0, none⟩) 64 dbTab ∧ RowIn .u8 w7 (w2.heap.size) (hi) Ao nb xsb ∧ RowIn .u8 w7 (w3.heap.size) (hi) At ns xss ∧ Below w.heap.size w w7 := by
          refine ⟨?_, ?_, ?_, ?_, ?_, ?_, ?_, ?_, ?_⟩
          all_goals repeat' (first | (with_reducible first | assumption | exact Below.refl _ _ | refine Blk.drewN ?_ _ | refine RowIn.drewN ?_ _ | refine below_drewN ?_ _ | refine Blk.drew ?_ | refine RowIn.drew ?_ | refine Below.drew ?_) | (with_reducible refine Blk.new' ?_ ?_ <;> first | (with_reducible rfl) | (simp; done)) | (with_reducible first | refine Blk.alloc ?_ _ | refine RowIn.alloc ?_ _ | refine Below.alloc ?_ ?_ _ | apply Blk.set' | apply Blk.far' | refine RowIn.far' ?_ ?_ _ | refine Below.far' ?_ ?_ _ | refine Blk.after ?_ b7 | refine RowIn.belowS ?_ b7 | refine Below.after ?_ b7 ?_) | (exact (Eq.refl _ : (_ : List Value) = _)) | omega | go_size)
        clear zs_6 zo_6 rs_6 rb_6 rt_6 rc_6 rv_6 bb_6 ks_6 fs_6 ls_6 ko_6 fo_6 lo_6 b7
        have ks_7 := zs_7.cell; have fs_7 := zs_7.frozen; have ls_7 := zs_7.lt
        have ko_7 := zo_7.cell; have fo_7 := zo_7.frozen; have lo_7 := zo_7.lt
        have kx_7 := zx_7.cell; have fx_7 := zx_7.frozen; have lx_7 := zx_7.lt
        have hq100 := hg100 _ rfl
        have te : ((q : Int) == (q : Int)) = true := by simp
        go_wp2_with fail
        obtain ⟨w8, hw8⟩ : ∃ w8, w8 = w7.alloc (.cells #[.int .i64 0, .int .i64 0, .int .i64 0, .int .u64 0, .int .u64 0, .slice none 0 0, .int .i64 0] 40) := ⟨_, rfl⟩
        obtain ⟨zs_8, zo_8, zx_8, zy_8, rs_8, rb_8, rt_8, rc_8, rv_8, bb_8, s8⟩ : Blk w8 (w.heap.size) 40 [.int .i64 (L : Int), .int .i64 (p0 : Int), .int .i64 (p1 : Int), .int .u64 (q0 : Int), .int .u64 (q1 : Int), .slice As ns cs, .int .i64 Ns] ∧ Blk w8 (go) 40 [.int .i64 (L : Int), .int .i64 (p0 : Int), .int .i64 (p1 : Int), .int .u64 (q0 : Int), .int .u64 (q1 : Int), .slice At ns ct, .int .i64 Ns] ∧ Blk w8 (w6.heap.size) 40 [.int .i64 0, .int .i64 0, .int .i64 0, .int .u64 0, .int .u64 0, .slice none 0 0, .int .i64 0] ∧ Blk w8 (w7.heap.size) 40 [.int .i64 0, .int .i64 0, .int .i64 0, .int .u64 0, .int .u64 0, .slice none 0 0, .int .i64 0] ∧ RowIn .u8 w8 (0) (w.heap.size) As ns xss ∧ RowIn .u8 w8 (0) (w.heap.size) Ab nb xsb ∧ RowIn .u8 w8 (0) (w.heap.size) (some ⟨0, 0, none⟩) 64 dbTab ∧ RowIn .u8 w8 (w2.heap.size) (hi) Ao nb xsb ∧ RowIn .u8 w8 (w3.heap.size) (hi) At ns xss ∧ Below w.heap.size w w8 ∧ w7.heap.size ≤ w8.heap.size := by
          rw [hw8]
          refine ⟨?_, ?_, ?_, ?_, ?_, ?_, ?_, ?_, ?_, ?_, by go_size⟩
          all_goals repeat' (first | (with_reducible first | assumption | exact Below.refl _ _ | refine Blk.drewN ?_ _ | refine RowIn.drewN ?_ _ | refine below_drewN ?_ _ | refine Blk.drew ?_ | refine RowIn.drew ?_ | refine Below.drew ?_) | (with_reducible refine Blk.new' ?_ ?_ <;> first | (with_reducible rfl) | (simp; done)) | (with_reducible first | refine Blk.alloc ?_ _ | refine RowIn.alloc ?_ _ | refine Below.alloc ?_ ?_ _ | apply Blk.set' | apply Blk.far' | refine RowIn.far' ?_ ?_ _ | refine Below.far' ?_ ?_ _) | (exact (Eq.refl _ : (_ : List Value) = _)) | omega | go_size)
        rw [← hw8]
        clear hw8
        clear zs_7 zo_7 zx_7 rs_7 rb_7 rt_7 rc_7 rv_7 bb_7 ks_7 fs_7 ls_7 ko_7 fo_7 lo_7 kx_7 fx_7 lx_7
        have ks_8 := zs_8.cell; have fs_8 := zs_8.frozen; have ls_8 := zs_8.lt
        have ko_8 := zo_8.cell; have fo_8 := zo_8.frozen; have lo_8 := zo_8.lt
        have kx_8 := zx_8.cell; have fx_8 := zx_8.frozen; have lx_8 := zx_8.lt
        have ky_8 := zy_8.cell; have fy_8 := zy_8.frozen; have ly_8 := zy_8.lt
        try simp only [List.append_eq, List.cons_append, List.nil_append]
        have tstr : ((strOfNums xsb).toList == (strOfNums xsb).toList) = true := by simp
        have ks_8d := (Blk.drew zs_8).cell; have ko_8d := (Blk.drew zo_8).cell; have kx_8d := (Blk.drew zx_8).cell; have ky_8d := (Blk.drew zy_8).cell
        have xc_8 := run_str (P := Tryd.prog) (src := 22) (dst := 9) Tryd.underlying22 Tryd.underlying5 Tryd.underlying9 co rc_8.row
        have xc_8d := run_str (P := Tryd.prog) (src := 22) (dst := 9) Tryd.underlying22 Tryd.underlying5 Tryd.underlying9 co (RowIn.drew rc_8).row
        have xb_8 := run_str (P := Tryd.prog) (src := 22) (dst := 9) Tryd.underlying22 Tryd.underlying5 Tryd.underlying9 cb rb_8.row
        have xb_8d := run_str (P := Tryd.prog) (src := 22) (dst := 9) Tryd.underlying22 Tryd.underlying5 Tryd.underlying9 cb (RowIn.drew rb_8).row
        go_region_held3 (fun w' => (∀ a, w'.cell? ⟨w.heap.size, a, none⟩ = [.int .i64 (L : Int), .int .i64 (p0 : Int), .int .i64 (p1 : Int), .int .u64 (q0 : Int), .int .u64 (q1 : Int), .slice As ns cs, .int .i64 Ns][a]?) ∧ (∀ a, w'.cell? ⟨go, a, none⟩ = [.int .i64 (L : Int), .int .i64 (p0 : Int), .int .i64 (p1 : Int), .int .u64 (q0 : Int), .int .u64 (q1 : Int), .slice At ns ct, .int .i64 Ns][a]?) ∧ (∀ a, w'.cell? ⟨w6.heap.size, a, none⟩ = [.int .i64 0, .int .i64 0, .int .i64 0, .int .u64 0, .int .u64 0, .slice none 0 0, .int .i64 0][a]?) ∧ (∀ a, w'.cell? ⟨w7.heap.size, a, none⟩ = [.int .i64 0, .int .i64 0, .int .i64 0, .int .u64 0, .int .u64 0, .slice none 0 0, .int .i64 0][a]?) ∧ (convert 22 9 (.slice Ao nb co)).run Tryd.prog w' = .ok (.string (strOfNums xsb)) w' ∧ (convert 22 9 (.slice Ab nb cb)).run Tryd.prog w' = .ok (.string (strOfNums xsb)) w') (first | with_reducible exact ⟨ks_8, ko_8, kx_8, ky_8, xc_8, xb_8⟩ | with_reducible exact ⟨ks_8d, ko_8d, kx_8d, ky_8d, xc_8d, xb_8d⟩ | with_reducible exact ⟨ks_9, ko_9, kx_9, ky_9, xc_9, xb_9⟩ | with_reducible exact ⟨ks_10, ko_10, kx_10, ky_10, xc_10, xb_10⟩ | with_reducible exact ⟨ks_11, ko_11, kx_11, ky_11, xc_11, xb_11⟩ | with_reducible exact ⟨ks_12, ko_12, kx_12, ky_12, xc_12, xb_12⟩ | with_reducible exact ⟨ks_13, ko_13, kx_13, ky_13, xc_13, xb_13⟩) (first
          | (go_simp; go_at_call 26; refine (h3.out At ct _ (RowIn.drew rv_8).row hct (RowIn.drew rt_8).row).mono ?_
             rintro e w9 ⟨rfl, b9⟩
             have s9 : w8.heap.size ≤ w9.heap.size := b9.size
             have zs_9 := ((Blk.drew zs_8)).after b9; have ks_9 := zs_9.cell; have fs_9 := zs_9.frozen; have ls_9 := zs_9.lt
             have zo_9 := ((Blk.drew zo_8)).after b9; have ko_9 := zo_9.cell; have fo_9 := zo_9.frozen; have lo_9 := zo_9.lt
             have zx_9 := ((Blk.drew zx_8)).after b9; have kx_9 := zx_9.cell; have fx_9 := zx_9.frozen; have lx_9 := zx_9.lt
             have zy_9 := ((Blk.drew zy_8)).after b9; have ky_9 := zy_9.cell; have fy_9 := zy_9.frozen; have ly_9 := zy_9.lt
             have rs_9 := ((RowIn.drew rs_8)).belowS b9
             have rb_9 := ((RowIn.drew rb_8)).belowS b9
             have rt_9 := ((RowIn.drew rt_8)).belowS b9
             have rc_9 := ((RowIn.drew rc_8)).belowS b9
             have rv_9 := ((RowIn.drew rv_8)).belowS b9
             have bb_9 := Below.after (Below.drew bb_8) b9 bb_8.size
             have xc_9 := run_str (P := Tryd.prog) (src := 22) (dst := 9) Tryd.underlying22 Tryd.underlying5 Tryd.underlying9 co rc_9.row
             have xb_9 := run_str (P := Tryd.prog) (src := 22) (dst := 9) Tryd.underlying22 Tryd.underlying5 Tryd.underlying9 cb rb_9.row)
          | (go_simp; go_at_call 27; refine (h4.out As cs _ rs_9.row hcs).mono ?_
             rintro e w10 ⟨rfl, b10⟩
             have s10 : w9.heap.size ≤ w10.heap.size := b10.size
             have zs_10 := (zs_9).after b10; have ks_10 := zs_10.cell; have fs_10 := zs_10.frozen; have ls_10 := zs_10.lt
             have zo_10 := (zo_9).after b10; have ko_10 := zo_10.cell; have fo_10 := zo_10.frozen; have lo_10 := zo_10.lt
             have zx_10 := (zx_9).after b10; have kx_10 := zx_10.cell; have fx_10 := zx_10.frozen; have lx_10 := zx_10.lt
             have zy_10 := (zy_9).after b10; have ky_10 := zy_10.cell; have fy_10 := zy_10.frozen; have ly_10 := zy_10.lt
             have rs_10 := (rs_9).belowS b10
             have rb_10 := (rb_9).belowS b10
             have rt_10 := (rt_9).belowS b10
             have rc_10 := (rc_9).belowS b10
             have rv_10 := (rv_9).belowS b10
             have bb_10 := Below.after bb_9 b10 bb_9.size
             have xc_10 := run_str (P := Tryd.prog) (src := 22) (dst := 9) Tryd.underlying22 Tryd.underlying5 Tryd.underlying9 co rc_10.row
             have xb_10 := run_str (P := Tryd.prog) (src := 22) (dst := 9) Tryd.underlying22 Tryd.underlying5 Tryd.underlying9 cb rb_10.row)
          | (go_simp; go_at_call_of 28 (none : Option Addr); refine (rrsame_eq 0 0 0 0 0 0 0 0 0 0 0 none none [] [] _ Row.nil Row.nil (fun x hx => by simp at hx) rfl rfl).mono ?_
             rintro e w11 ⟨rfl, b11⟩
             have s11 : w10.heap.size ≤ w11.heap.size := b11.size
             have zs_11 := (zs_10).after b11; have ks_11 := zs_11.cell; have fs_11 := zs_11.frozen; have ls_11 := zs_11.lt
             have zo_11 := (zo_10).after b11; have ko_11 := zo_11.cell; have fo_11 := zo_11.frozen; have lo_11 := zo_11.lt
             have zx_11 := (zx_10).after b11; have kx_11 := zx_11.cell; have fx_11 := zx_11.frozen; have lx_11 := zx_11.lt
             have zy_11 := (zy_10).after b11; have ky_11 := zy_11.cell; have fy_11 := zy_11.frozen; have ly_11 := zy_11.lt
             have rs_11 := (rs_10).belowS b11
             have rb_11 := (rb_10).belowS b11
             have rt_11 := (rt_10).belowS b11
             have rc_11 := (rc_10).belowS b11
             have rv_11 := (rv_10).belowS b11
             have bb_11 := Below.after bb_10 b11 bb_10.size
             have xc_11 := run_str (P := Tryd.prog) (src := 22) (dst := 9) Tryd.underlying22 Tryd.underlying5 Tryd.underlying9 co rc_11.row
             have xb_11 := run_str (P := Tryd.prog) (src := 22) (dst := 9) Tryd.underlying22 Tryd.underlying5 Tryd.underlying9 cb rb_11.row)
          | (go_simp; go_at_call 21; refine (r9same_eq none none 0 0 0 0 [] [] _ Row.nil Row.nil (by omega) rfl).mono ?_
             rintro e w12 ⟨rfl, b12⟩
             have s12 : w11.heap.size ≤ w12.heap.size := b12.size
             have zs_12 := (zs_11).after b12; have ks_12 := zs_12.cell; have fs_12 := zs_12.frozen; have ls_12 := zs_12.lt
             have zo_12 := (zo_11).after b12; have ko_12 := zo_12.cell; have fo_12 := zo_12.frozen; have lo_12 := zo_12.lt
             have zx_12 := (zx_11).after b12; have kx_12 := zx_12.cell; have fx_12 := zx_12.frozen; have lx_12 := zx_12.lt
             have zy_12 := (zy_11).after b12; have ky_12 := zy_12.cell; have fy_12 := zy_12.frozen; have ly_12 := zy_12.lt
             have rs_12 := (rs_11).belowS b12
             have rb_12 := (rb_11).belowS b12
             have rt_12 := (rt_11).belowS b12
             have rc_12 := (rc_11).belowS b12
             have rv_12 := (rv_11).belowS b12
             have bb_12 := Below.after bb_11 b12 bb_11.size
             have xc_12 := run_str (P := Tryd.prog) (src := 22) (dst := 9) Tryd.underlying22 Tryd.underlying5 Tryd.underlying9 co rc_12.row
             have xb_12 := run_str (P := Tryd.prog) (src := 22) (dst := 9) Tryd.underlying22 Tryd.underlying5 Tryd.underlying9 cb rb_12.row)
          | (go_simp; go_at_call_of 28 At; refine (rrsame_eq L p0 p1 q0 q1 Ns Ns ns ct ns cs At As xss xss _ rv_12.row rs_12.row hxs rfl rfl).mono ?_
             rintro e w13 ⟨rfl, b13⟩
             have s13 : w12.heap.size ≤ w13.heap.size := b13.size
             have zs_13 := (zs_12).after b13; have ks_13 := zs_13.cell; have fs_13 := zs_13.frozen; have ls_13 := zs_13.lt
             have zo_13 := (zo_12).after b13; have ko_13 := zo_13.cell; have fo_13 := zo_13.frozen; have lo_13 := zo_13.lt
             have zx_13 := (zx_12).after b13; have kx_13 := zx_13.cell; have fx_13 := zx_13.frozen; have lx_13 := zx_13.lt
             have zy_13 := (zy_12).after b13; have ky_13 := zy_13.cell; have fy_13 := zy_13.frozen; have ly_13 := zy_13.lt
             have rs_13 := (rs_12).belowS b13
             have rb_13 := (rb_12).belowS b13
             have rt_13 := (rt_12).belowS b13
             have rc_13 := (rc_12).belowS b13
             have rv_13 := (rv_12).belowS b13
             have bb_13 := Below.after bb_12 b13 bb_12.size
             have xc_13 := run_str (P := Tryd.prog) (src := 22) (dst := 9) Tryd.underlying22 Tryd.underlying5 Tryd.underlying9 co rc_13.row
             have xb_13 := run_str (P := Tryd.prog) (src := 22) (dst := 9) Tryd.underlying22 Tryd.underlying5 Tryd.underlying9 cb rb_13.row))
        all_goals
          go_wp2
          go_ret
          refine ⟨rfl, ?_⟩
          repeat' (first | (with_reducible first | assumption | exact Below.refl _ _ | refine Blk.drewN ?_ _ | refine RowIn.drewN ?_ _ | refine below_drewN ?_ _ | refine Blk.drew ?_ | refine RowIn.drew ?_ | refine Below.drew ?_) | (with_reducible refine Blk.new' ?_ ?_ <;> first | (with_reducible rfl) | (simp; done)) | (with_reducible first | refine Blk.alloc ?_ _ | refine RowIn.alloc ?_ _ | refine Below.alloc ?_ ?_ _ | apply Blk.set' | apply Blk.far' | refine RowIn.far' ?_ ?_ _ | refine Below.far' ?_ ?_ _) | (exact (Eq.refl _ : (_ : List Value) = _)) | omega | go_size)
      · refine (h1.out At ct _ (by exact RowIn.row (lo := w3.heap.size) (hi := hi) (by repeat' (first | (with_reducible first | assumption | exact Below.refl _ _ | refine Blk.drewN ?_ _ | refine RowIn.drewN ?_ _ | refine below_drewN ?_ _ | refine Blk.drew ?_ | refine RowIn.drew ?_ | refine Below.drew ?_) | (with_reducible refine Blk.new' ?_ ?_ <;> first | (with_reducible rfl) | (simp; done)) | (with_reducible first | refine Blk.alloc ?_ _ | refine RowIn.alloc ?_ _ | refine Below.alloc ?_ ?_ _ | apply Blk.set' | apply Blk.far' | refine RowIn.far' ?_ ?_ _ | refine Below.far' ?_ ?_ _) | (exact (Eq.refl _ : (_ : List Value) = _)) | omega | go_size))) hct Ao co (by exact RowIn.row (lo := w2.heap.size) (hi := hi) (by repeat' (first | (with_reducible first | assumption | exact Below.refl _ _ | refine Blk.drewN ?_ _ | refine RowIn.drewN ?_ _ | refine below_drewN ?_ _ | refine Blk.drew ?_ | refine RowIn.drew ?_ | refine Below.drew ?_) | (with_reducible refine Blk.new' ?_ ?_ <;> first | (with_reducible rfl) | (simp; done)) | (with_reducible first | refine Blk.alloc ?_ _ | refine RowIn.alloc ?_ _ | refine Below.alloc ?_ ?_ _ | apply Blk.set' | apply Blk.far' | refine RowIn.far' ?_ ?_ _ | refine Below.far' ?_ ?_ _) | (exact (Eq.refl _ : (_ : List Value) = _)) | omega | go_size))) hco (by exact RowIn.row (lo := 0) (hi := w.heap.size) (by repeat' (first | (with_reducible first | assumption | exact Below.refl _ _ | refine Blk.drewN ?_ _ | refine RowIn.drewN ?_ _ | refine below_drewN ?_ _ | refine Blk.drew ?_ | refine RowIn.drew ?_ | refine Below.drew ?_) | (with_reducible refine Blk.new' ?_ ?_ <;> first | (with_reducible rfl) | (simp; done)) | (with_reducible first | refine Blk.alloc ?_ _ | refine RowIn.alloc ?_ _ | refine Below.alloc ?_ ?_ _ | apply Blk.set' | apply Blk.far' | refine RowIn.far' ?_ ?_ _ | refine Below.far' ?_ ?_ _) | (exact (Eq.refl _ : (_ : List Value) = _)) | omega | go_size)))).mono ?_
        rintro e w6 ⟨b6, hres⟩
        have hres2 : e = _ := hres
        subst hres2
        clear hres
        have s6 := b6.size
        try simp only [World.size_alloc, World.size_setCell, World.size_drew, size_drewN] at s6
        obtain ⟨zs_6, zo_6, rs_6, rb_6, rt_6, rc_6, rv_6, bb_6⟩ : Blk w6 (w.heap.size) 40 [.int .i64 (L : Int), .int .i64 (p0 : Int), .int .i64 (p1 : Int), .int .u64 (q0 : Int), .int .u64 (q1 : Int), .slice As ns cs, .int .i64 Ns] ∧ Blk w6 (go) 40 [.int .i64 (L : Int), .int .i64 (p0 : Int), .int .i64 (p1 : Int), .int .u64 (q0 : Int), .int .u64 (q1 : Int), .slice At ns ct, .int .i64 Ns] ∧ RowIn .u8 w6 (0) (w.heap.size) As ns xss ∧ RowIn .u8 w6 (0) (w.heap.size) Ab nb xsb ∧ RowIn .u8 w6 (0) (w.heap.size) (some ⟨0, 0, none⟩) 64 dbTab ∧ RowIn .u8 w6 (w2.heap.size) (hi) Ao nb xsb ∧ RowIn .u8 w6 (w3.heap.size) (hi) At ns xss ∧ Below w.heap.size w w6 := by
          refine ⟨?_, ?_, ?_, ?_, ?_, ?_, ?_, ?_⟩
          all_goals repeat' (first | (with_reducible first | assumption | exact Below.refl _ _ | refine Blk.drewN ?_ _ | refine RowIn.drewN ?_ _ | refine below_drewN ?_ _ | refine Blk.drew ?_ | refine RowIn.drew ?_ | refine Below.drew ?_) | (with_reducible refine Blk.new' ?_ ?_ <;> first | (with_reducible rfl) | (simp; done)) | (with_reducible first | refine Blk.alloc ?_ _ | refine RowIn.alloc ?_ _ | refine Below.alloc ?_ ?_ _ | apply Blk.set' | apply Blk.far' | refine RowIn.far' ?_ ?_ _ | refine Below.far' ?_ ?_ _ | refine Blk.after ?_ b6 | refine RowIn.belowS ?_ b6 | refine Below.after ?_ b6 ?_) | (exact (Eq.refl _ : (_ : List Value) = _)) | omega | go_size)
        clear zs_5 zo_5 rs_5 rb_5 rt_5 rc_5 rv_5 bb_5 ks_5 fs_5 ls_5 ko_5 fo_5 lo_5 b6
        have ks_6 := zs_6.cell; have fs_6 := zs_6.frozen; have ls_6 := zs_6.lt
        have ko_6 := zo_6.cell; have fo_6 := zo_6.frozen; have lo_6 := zo_6.lt
        go_wp2_with fail
        refine (h2.out As cs _ (by exact RowIn.row (lo := 0) (hi := w.heap.size) (by repeat' (first | (with_reducible first | assumption | exact Below.refl _ _ | refine Blk.drewN ?_ _ | refine RowIn.drewN ?_ _ | refine below_drewN ?_ _ | refine Blk.drew ?_ | refine RowIn.drew ?_ | refine Below.drew ?_) | (with_reducible refine Blk.new' ?_ ?_ <;> first | (with_reducible rfl) | (simp; done)) | (with_reducible first | refine Blk.alloc ?_ _ | refine RowIn.alloc ?_ _ | refine Below.alloc ?_ ?_ _ | apply Blk.set' | apply Blk.far' | refine RowIn.far' ?_ ?_ _ | refine Below.far' ?_ ?_ _) | (exact (Eq.refl _ : (_ : List Value) = _)) | omega | go_size))) hcs Ab cb (by exact RowIn.row (lo := 0) (hi := w.heap.size) (by repeat' (first | (with_reducible first | assumption | exact Below.refl _ _ | refine Blk.drewN ?_ _ | refine RowIn.drewN ?_ _ | refine below_drewN ?_ _ | refine Blk.drew ?_ | refine RowIn.drew ?_ | refine Below.drew ?_) | (with_reducible refine Blk.new' ?_ ?_ <;> first | (with_reducible rfl) | (simp; done)) | (with_reducible first | refine Blk.alloc ?_ _ | refine RowIn.alloc ?_ _ | refine Below.alloc ?_ ?_ _ | apply Blk.set' | apply Blk.far' | refine RowIn.far' ?_ ?_ _ | refine Below.far' ?_ ?_ _) | (exact (Eq.refl _ : (_ : List Value) = _)) | omega | go_size))) hcb).mono ?_
        rintro e w7 ⟨b7, hres⟩
        have hres2 : e = _ := hres
        subst hres2
        clear hres
        have s7 := b7.size
        try simp only [World.size_alloc, World.size_setCell, World.size_drew, size_drewN] at s7
        obtain ⟨zs_7, zo_7, zx_7, rs_7, rb_7, rt_7, rc_7, rv_7, bb_7⟩ : Blk w7 (w.heap.size) 40 [.int .i64 (L : Int), .int .i64 (p0 : Int), .int .i64 (p1 : Int), .int .u64 (q0 : Int), .int .u64 (q1 : Int), .slice As ns cs, .int .i64 Ns] ∧ Blk w7 (go) 40 [.int .i64 (L : Int), .int .i64 (p0 : Int), .int .i64 (p1 : Int), .int .u64 (q0 : Int), .int .u64 (q1 : Int), .slice At ns ct, .int .i64 Ns] ∧ Blk w7 (w6.heap.size) 40 [.int .i64 0, .int .i64 0, .int .i64 0, .int .u64 0, .int .u64 0, .slice none 0 0, .int .i64 0] ∧ RowIn .u8 w7 (0) (w.heap.size) As ns xss ∧ RowIn .u8 w7 (0) (w.heap.size) Ab nb xsb ∧ RowIn .u8 w7 (0) (w.heap.size) (some ⟨0, 0, none⟩) 64 dbTab ∧ RowIn .u8 w7 (w2.heap.size) (hi) Ao nb xsb ∧ RowIn .u8 w7 (w3.heap.size) (hi) At ns xss ∧ Below w.heap.size w w7 := by
          refine ⟨?_, ?_, ?_, ?_, ?_, ?_, ?_, ?_, ?_⟩
          all_goals repeat' (first | (with_reducible first | assumption | exact Below.refl _ _ | refine Blk.drewN ?_ _ | refine RowIn.drewN ?_ _ | refine below_drewN ?_ _ | refine Blk.drew ?_ | refine RowIn.drew ?_ | refine Below.drew ?_) | (with_reducible refine Blk.new' ?_ ?_ <;> first | (with_reducible rfl) | (simp; done)) | (with_reducible first | refine Blk.alloc ?_ _ | refine RowIn.alloc ?_ _ | refine Below.alloc ?_ ?_ _ | apply Blk.set' | apply Blk.far' | refine RowIn.far' ?_ ?_ _ | refine Below.far' ?_ ?_ _ | refine Blk.after ?_ b7 | refine RowIn.belowS ?_ b7 | refine Below.after ?_ b7 ?_) | (exact (Eq.refl _ : (_ : List Value) = _)) | omega | go_size)
        clear zs_6 zo_6 rs_6 rb_6 rt_6 rc_6 rv_6 bb_6 ks_6 fs_6 ls_6 ko_6 fo_6 lo_6 b7
        have ks_7 := zs_7.cell; have fs_7 := zs_7.frozen; have ls_7 := zs_7.lt
        have ko_7 := zo_7.cell; have fo_7 := zo_7.frozen; have lo_7 := zo_7.lt
        have kx_7 := zx_7.cell; have fx_7 := zx_7.frozen; have lx_7 := zx_7.lt
        have hq100 := hg100 _ rfl
        have te : ((q : Int) == (q : Int)) = true := by simp
        go_wp2_with fail
        obtain ⟨w8, hw8⟩ : ∃ w8, w8 = w7.alloc (.cells #[.int .i64 0, .int .i64 0, .int .i64 0, .int .u64 0, .int .u64 0, .slice none 0 0, .int .i64 0] 40) := ⟨_, rfl⟩
        obtain ⟨zs_8, zo_8, zx_8, zy_8, rs_8, rb_8, rt_8, rc_8, rv_8, bb_8, s8⟩ : Blk w8 (w.heap.size) 40 [.int .i64 (L : Int), .int .i64 (p0 : Int), .int .i64 (p1 : Int), .int .u64 (q0 : Int), .int .u64 (q1 : Int), .slice As ns cs, .int .i64 Ns] ∧ Blk w8 (go) 40 [.int .i64 (L : Int), .int .i64 (p0 : Int), .int .i64 (p1 : Int), .int .u64 (q0 : Int), .int .u64 (q1 : Int), .slice At ns ct, .int .i64 Ns] ∧ Blk w8 (w6.heap.size) 40 [.int .i64 0, .int .i64 0, .int .i64 0, .int .u64 0, .int .u64 0, .slice none 0 0, .int .i64 0] ∧ Blk w8 (w7.heap.size) 40 [.int .i64 0, .int .i64 0, .int .i64 0, .int .u64 0, .int .u64 0, .slice none 0 0, .int .i64 0] ∧ RowIn .u8 w8 (0) (w.heap.size) As ns xss ∧ RowIn .u8 w8 (0) (w.heap.size) Ab nb xsb ∧ RowIn .u8 w8 (0) (w.heap.size) (some ⟨0, 0, none⟩) 64 dbTab ∧ RowIn .u8 w8 (w2.heap.size) (hi) Ao nb xsb ∧ RowIn .u8 w8 (w3.heap.size) (hi) At ns xss ∧ Below w.heap.size w w8 ∧ w7.heap.size ≤ w8.heap.size := by
          rw [hw8]
          refine ⟨?_, ?_, ?_, ?_, ?_, ?_, ?_, ?_, ?_, ?_, by go_size⟩
          all_goals repeat' (first | (with_reducible first | assumption | exact Below.refl _ _ | refine Blk.drewN ?_ _ | refine RowIn.drewN ?_ _ | refine below_drewN ?_ _ | refine Blk.drew ?_ | refine RowIn.drew ?_ | refine Below.drew ?_) | (with_reducible refine Blk.new' ?_ ?_ <;> first | (with_reducible rfl) | (simp; done)) | (with_reducible first | refine Blk.alloc ?_ _ | refine RowIn.alloc ?_ _ | refine Below.alloc ?_ ?_ _ | apply Blk.set' | apply Blk.far' | refine RowIn.far' ?_ ?_ _ | refine Below.far' ?_ ?_ _) | (exact (Eq.refl _ : (_ : List Value) = _)) | omega | go_size)
        rw [← hw8]
        clear hw8
        clear zs_7 zo_7 zx_7 rs_7 rb_7 rt_7 rc_7 rv_7 bb_7 ks_7 fs_7 ls_7 ko_7 fo_7 lo_7 kx_7 fx_7 lx_7
        have ks_8 := zs_8.cell; have fs_8 := zs_8.frozen; have ls_8 := zs_8.lt
        have ko_8 := zo_8.cell; have fo_8 := zo_8.frozen; have lo_8 := zo_8.lt
        have kx_8 := zx_8.cell; have fx_8 := zx_8.frozen; have lx_8 := zx_8.lt
        have ky_8 := zy_8.cell; have fy_8 := zy_8.frozen; have ly_8 := zy_8.lt
        try simp only [List.append_eq, List.cons_append, List.nil_append]
        have tstr : ((strOfNums xsb).toList == (strOfNums xsb).toList) = true := by simp
        have ks_8d := (Blk.drew zs_8).cell; have ko_8d := (Blk.drew zo_8).cell; have kx_8d := (Blk.drew zx_8).cell; have ky_8d := (Blk.drew zy_8).cell
        have xc_8 := run_str (P := Tryd.prog) (src := 22) (dst := 9) Tryd.underlying22 Tryd.underlying5 Tryd.underlying9 co rc_8.row
        have xc_8d := run_str (P := Tryd.prog) (src := 22) (dst := 9) Tryd.underlying22 Tryd.underlying5 Tryd.underlying9 co (RowIn.drew rc_8).row
        have xb_8 := run_str (P := Tryd.prog) (src := 22) (dst := 9) Tryd.underlying22 Tryd.underlying5 Tryd.underlying9 cb rb_8.row
        have xb_8d := run_str (P := Tryd.prog) (src := 22) (dst := 9) Tryd.underlying22 Tryd.underlying5 Tryd.underlying9 cb (RowIn.drew rb_8).row
        go_region_held3 (fun w' => (∀ a, w'.cell? ⟨w.heap.size, a, none⟩ = [.int .i64 (L : Int), .int .i64 (p0 : Int), .int .i64 (p1 : Int), .int .u64 (q0 : Int), .int .u64 (q1 : Int), .slice As ns cs, .int .i64 Ns][a]?) ∧ (∀ a, w'.cell? ⟨go, a, none⟩ = [.int .i64 (L : Int), .int .i64 (p0 : Int), .int .i64 (p1 : Int), .int .u64 (q0 : Int), .int .u64 (q1 : Int), .slice At ns ct, .int .i64 Ns][a]?) ∧ (∀ a, w'.cell? ⟨w6.heap.size, a, none⟩ = [.int .i64 0, .int .i64 0, .int .i64 0, .int .u64 0, .int .u64 0, .slice none 0 0, .int .i64 0][a]?) ∧ (∀ a, w'.cell? ⟨w7.heap.size, a, none⟩ = [.int .i64 0, .int .i64 0, .int .i64 0, .int .u64 0, .int .u64 0, .slice none 0 0, .int .i64 0][a]?) ∧ (convert 22 9 (.slice Ao nb co)).run Tryd.prog w' = .ok (.string (strOfNums xsb)) w' ∧ (convert 22 9 (.slice Ab nb cb)).run Tryd.prog w' = .ok (.string (strOfNums xsb)) w') (first | with_reducible exact ⟨ks_8, ko_8, kx_8, ky_8, xc_8, xb_8⟩ | with_reducible exact ⟨ks_8d, ko_8d, kx_8d, ky_8d, xc_8d, xb_8d⟩ | with_reducible exact ⟨ks_9, ko_9, kx_9, ky_9, xc_9, xb_9⟩ | with_reducible exact ⟨ks_10, ko_10, kx_10, ky_10, xc_10, xb_10⟩ | with_reducible exact ⟨ks_11, ko_11, kx_11, ky_11, xc_11, xb_11⟩ | with_reducible exact ⟨ks_12, ko_12, kx_12, ky_12, xc_12, xb_12⟩ | with_reducible exact ⟨ks_13, ko_13, kx_13, ky_13, xc_13, xb_13⟩) (first
          | (go_simp; go_at_call 26; refine (h3.out At ct _ (RowIn.drew rv_8).row hct (RowIn.drew rt_8).row).mono ?_
             rintro e w9 ⟨rfl, b9⟩
             have s9 : w8.heap.size ≤ w9.heap.size := b9.size
             have zs_9 := ((Blk.drew zs_8)).after b9; have ks_9 := zs_9.cell; have fs_9 := zs_9.frozen; have ls_9 := zs_9.lt
             have zo_9 := ((Blk.drew zo_8)).after b9; have ko_9 := zo_9.cell; have fo_9 := zo_9.frozen; have lo_9 := zo_9.lt
             have zx_9 := ((Blk.drew zx_8)).after b9; have kx_9 := zx_9.cell; have fx_9 := zx_9.frozen; have lx_9 := zx_9.lt
             have zy_9 := ((Blk.drew zy_8)).after b9; have ky_9 := zy_9.cell; have fy_9 := zy_9.frozen; have ly_9 := zy_9.lt
             have rs_9 := ((RowIn.drew rs_8)).belowS b9
             have rb_9 := ((RowIn.drew rb_8)).belowS b9
             have rt_9 := ((RowIn.drew rt_8)).belowS b9
             have rc_9 := ((RowIn.drew rc_8)).belowS b9
             have rv_9 := ((RowIn.drew rv_8)).belowS b9
             have bb_9 := Below.after (Below.drew bb_8) b9 bb_8.size
             have xc_9 := run_str (P := Tryd.prog) (src := 22) (dst := 9) Tryd.underlying22 Tryd.underlying5 Tryd.underlying9 co rc_9.row
             have xb_9 := run_str (P := Tryd.prog) (src := 22) (dst := 9) Tryd.underlying22 Tryd.underlying5 Tryd.underlying9 cb rb_9.row)
          | (go_simp; go_at_call 27; refine (h4.out As cs _ rs_9.row hcs).mono ?_
             rintro e w10 ⟨rfl, b10⟩
             have s10 : w9.heap.size ≤ w10.heap.size := b10.size
             have zs_10 := (zs_9).after b10; have ks_10 := zs_10.cell; have fs_10 := zs_10.frozen; have ls_10 := zs_10.lt
             have zo_10 := (zo_9).after b10; have ko_10 := zo_10.cell; have fo_10 := zo_10.frozen; have lo_10 := zo_10.lt
             have zx_10 := (zx_9).after b10; have kx_10 := zx_10.cell; have fx_10 := zx_10.frozen; have lx_10 := zx_10.lt
             have zy_10 := (zy_9).after b10; have ky_10 := zy_10.cell; have fy_10 := zy_10.frozen; have ly_10 := zy_10.lt
             have rs_10 := (rs_9).belowS b10
             have rb_10 := (rb_9).belowS b10
             have rt_10 := (rt_9).belowS b10
             have rc_10 := (rc_9).belowS b10
             have rv_10 := (rv_9).belowS b10
             have bb_10 := Below.after bb_9 b10 bb_9.size
             have xc_10 := run_str (P := Tryd.prog) (src := 22) (dst := 9) Tryd.underlying22 Tryd.underlying5 Tryd.underlying9 co rc_10.row
             have xb_10 := run_str (P := Tryd.prog) (src := 22) (dst := 9) Tryd.underlying22 Tryd.underlying5 Tryd.underlying9 cb rb_10.row)
          | (go_simp; go_at_call_of 28 (none : Option Addr); refine (rrsame_eq 0 0 0 0 0 0 0 0 0 0 0 none none [] [] _ Row.nil Row.nil (fun x hx => by simp at hx) rfl rfl).mono ?_
             rintro e w11 ⟨rfl, b11⟩
             have s11 : w10.heap.size ≤ w11.heap.size := b11.size
             have zs_11 := (zs_10).after b11; have ks_11 := zs_11.cell; have fs_11 := zs_11.frozen; have ls_11 := zs_11.lt
             have zo_11 := (zo_10).after b11; have ko_11 := zo_11.cell; have fo_11 := zo_11.frozen; have lo_11 := zo_11.lt
             have zx_11 := (zx_10).after b11; have kx_11 := zx_11.cell; have fx_11 := zx_11.frozen; have lx_11 := zx_11.lt
             have zy_11 := (zy_10).after b11; have ky_11 := zy_11.cell; have fy_11 := zy_11.frozen; have ly_11 := zy_11.lt
             have rs_11 := (rs_10).belowS b11
             have rb_11 := (rb_10).belowS b11
             have rt_11 := (rt_10).belowS b11
             have rc_11 := (rc_10).belowS b11
             have rv_11 := (rv_10).belowS b11
             have bb_11 := Below.after bb_10 b11 bb_10.size
             have xc_11 := run_str (P := Tryd.prog) (src := 22) (dst := 9) Tryd.underlying22 Tryd.underlying5 Tryd.underlying9 co rc_11.row
             have xb_11 := run_str (P := Tryd.prog) (src := 22) (dst := 9) Tryd.underlying22 Tryd.underlying5 Tryd.underlying9 cb rb_11.row)
          | (go_simp; go_at_call 21; refine (r9same_eq none none 0 0 0 0 [] [] _ Row.nil Row.nil (by omega) rfl).mono ?_
             rintro e w12 ⟨rfl, b12⟩
             have s12 : w11.heap.size ≤ w12.heap.size := b12.size
             have zs_12 := (zs_11).after b12; have ks_12 := zs_12.cell; have fs_12 := zs_12.frozen; have ls_12 := zs_12.lt
             have zo_12 := (zo_11).after b12; have ko_12 := zo_12.cell; have fo_12 := zo_12.frozen; have lo_12 := zo_12.lt
             have zx_12 := (zx_11).after b12; have kx_12 := zx_12.cell; have fx_12 := zx_12.frozen; have lx_12 := zx_12.lt
             have zy_12 := (zy_11).after b12; have ky_12 := zy_12.cell; have fy_12 := zy_12.frozen; have ly_12 := zy_12.lt
             have rs_12 := (rs_11).belowS b12
             have rb_12 := (rb_11).belowS b12
             have rt_12 := (rt_11).belowS b12
             have rc_12 := (rc_11).belowS b12
             have rv_12 := (rv_11).belowS b12
             have bb_12 := Below.after bb_11 b12 bb_11.size
             have xc_12 := run_str (P := Tryd.prog) (src := 22) (dst := 9) Tryd.underlying22 Tryd.underlying5 Tryd.underlying9 co rc_12.row
             have xb_12 := run_str (P := Tryd.prog) (src := 22) (dst := 9) Tryd.underlying22 Tryd.underlying5 Tryd.underlying9 cb rb_12.row)
          | (go_simp; go_at_call_of 28 At; refine (rrsame_eq L p0 p1 q0 q1 Ns Ns ns ct ns cs At As xss xss _ rv_12.row rs_12.row hxs rfl rfl).mono ?_
             rintro e w13 ⟨rfl, b13⟩
             have s13 : w12.heap.size ≤ w13.heap.size := b13.size
             have zs_13 := (zs_12).after b13; have ks_13 := zs_13.cell; have fs_13 := zs_13.frozen; have ls_13 := zs_13.lt
             have zo_13 := (zo_12).after b13; have ko_13 := zo_13.cell; have fo_13 := zo_13.frozen; have lo_13 := zo_13.lt
             have zx_13 := (zx_12).after b13; have kx_13 := zx_13.cell; have fx_13 := zx_13.frozen; have lx_13 := zx_13.lt
             have zy_13 := (zy_12).after b13; have ky_13 := zy_13.cell; have fy_13 := zy_13.frozen; have ly_13 := zy_13.lt
             have rs_13 := (rs_12).belowS b13
             have rb_13 := (rb_12).belowS b13
             have rt_13 := (rt_12).belowS b13
             have rc_13 := (rc_12).belowS b13
             have rv_13 := (rv_12).belowS b13
             have bb_13 := Below.after bb_12 b13 bb_12.size
             have xc_13 := run_str (P := Tryd.prog) (src := 22) (dst := 9) Tryd.underlying22 Tryd.underlying5 Tryd.underlying9 co rc_13.row
             have xb_13 := run_str (P := Tryd.prog) (src := 22) (dst := 9) Tryd.underlying22 Tryd.underlying5 Tryd.underlying9 cb rb_13.row))
        all_goals
          go_wp2
          go_ret
          refine ⟨rfl, ?_⟩
          repeat' (first | (with_reducible first | assumption | exact Below.refl _ _ | refine Blk.drewN ?_ _ | refine RowIn.drewN ?_ _ | refine below_drewN ?_ _ | refine Blk.drew ?_ | refine RowIn.drew ?_ | refine Below.drew ?_) | (with_reducible refine Blk.new' ?_ ?_ <;> first | (with_reducible rfl) | (simp; done)) | (with_reducible first | refine Blk.alloc ?_ _ | refine RowIn.alloc ?_ _ | refine Below.alloc ?_ ?_ _ | apply Blk.set' | apply Blk.far' | refine RowIn.far' ?_ ?_ _ | refine Below.far' ?_ ?_ _) | (exact (Eq.refl _ : (_ : List Value) = _)) | omega | go_size)
    | ok vs n2 d2 r2 =>
      have HG4 := Lib.hid (hgo4 _ _ _ _ rfl)
      clear hg100 hgo4
      rcases her with rfl | rfl
      · refine (h1.out At ct _ (by exact RowIn.row (lo := w3.heap.size) (hi := hi) (by repeat' (first | (with_reducible first | assumption | exact Below.refl _ _ | refine Blk.drewN ?_ _ | refine RowIn.drewN ?_ _ | refine below_drewN ?_ _ | refine Blk.drew ?_ | refine RowIn.drew ?_ | refine Below.drew ?_) | (with_reducible refine Blk.new' ?_ ?_ <;> first | (with_reducible rfl) | (simp; done)) | (with_reducible first | refine Blk.alloc ?_ _ | refine RowIn.alloc ?_ _ | refine Below.alloc ?_ ?_ _ | apply Blk.set' | apply Blk.far' | refine RowIn.far' ?_ ?_ _ | refine Below.far' ?_ ?_ _) | (exact (Eq.refl _ : (_ : List Value) = _)) | omega | go_size))) hct Ao co (by exact RowIn.row (lo := w2.heap.size) (hi := hi) (by repeat' (first | (with_reducible first | assumption | exact Below.refl _ _ | refine Blk.drewN ?_ _ | refine RowIn.drewN ?_ _ | refine below_drewN ?_ _ | refine Blk.drew ?_ | refine RowIn.drew ?_ | refine Below.drew ?_) | (with_reducible refine Blk.new' ?_ ?_ <;> first | (with_reducible rfl) | (simp; done)) | (with_reducible first | refine Blk.alloc ?_ _ | refine RowIn.alloc ?_ _ | refine Below.alloc ?_ ?_ _ | apply Blk.set' | apply Blk.far' | refine RowIn.far' ?_ ?_ _ | refine Below.far' ?_ ?_ _) | (exact (Eq.refl _ : (_ : List Value) = _)) | omega | go_size))) hco (by exact RowIn.row (lo := 0) (hi := w.heap.size) (by repeat' (first | (with_reducible first | assumption | exact Below.refl _ _ | refine Blk.drewN ?_ _ | refine RowIn.drewN ?_ _ | refine below_drewN ?_ _ | refine Blk.drew ?_ | refine RowIn.drew ?_ | refine Below.drew ?_) | (with_reducible refine Blk.new' ?_ ?_ <;> first | (with_reducible rfl) | (simp; done)) | (with_reducible first | refine Blk.alloc ?_ _ | refine RowIn.alloc ?_ _ | refine Below.alloc ?_ ?_ _ | apply Blk.set' | apply Blk.far' | refine RowIn.far' ?_ ?_ _ | refine Below.far' ?_ ?_ _) | (exact (Eq.refl _ : (_ : List Value) = _)) | omega | go_size)))).mono ?_
        rintro e w6 ⟨b6, u0, u1, v0, v1, mx, cx, kx, dx, Ax, Bx, xx, zx, rfl, HDx, hcx, HXx, rx, hdx, HZx, rlx⟩
        replace rx := rx.mono (lo' := w5.heap.size) (by go_size) (Nat.le_refl _)
        replace rlx := rlx.mono (lo' := w5.heap.size) (by go_size) (Nat.le_refl _)
        have lnx := rlx.len
        have s6 := b6.size
        try simp only [World.size_alloc, World.size_setCell, World.size_drew, size_drewN] at s6
        obtain ⟨zs_6, zo_6, rs_6, rb_6, rt_6, rc_6, rv_6, rx_6, rlx_6, bb_6⟩ : Blk w6 (w.heap.size) 40 [.int .i64 (L : Int), .int .i64 (p0 : Int), .int .i64 (p1 : Int), .int .u64 (q0 : Int), .int .u64 (q1 : Int), .slice As ns cs, .int .i64 Ns] ∧ Blk w6 (go) 40 [.int .i64 (L : Int), .int .i64 (p0 : Int), .int .i64 (p1 : Int), .int .u64 (q0 : Int), .int .u64 (q1 : Int), .slice At ns ct, .int .i64 Ns] ∧ RowIn .u8 w6 (0) (w.heap.size) As ns xss ∧ RowIn .u8 w6 (0) (w.heap.size) Ab nb xsb ∧ RowIn .u8 w6 (0) (w.heap.size) (some ⟨0, 0, none⟩) 64 dbTab ∧ RowIn .u8 w6 (w2.heap.size) (hi) Ao nb xsb ∧ RowIn .u8 w6 (w3.heap.size) (hi) At ns xss ∧ RowIn .u8 w6 (w5.heap.size) (w6.heap.size) Ax mx (pack xx) ∧ RowIn .u32 w6 (w5.heap.size) (w6.heap.size) Bx kx zx ∧ Below w.heap.size w w6 := by
          refine ⟨?_, ?_, ?_, ?_, ?_, ?_, ?_, ?_, ?_, ?_⟩
          all_goals repeat' (first | (with_reducible first | assumption | exact Below.refl _ _ | refine Blk.drewN ?_ _ | refine RowIn.drewN ?_ _ | refine below_drewN ?_ _ | refine Blk.drew ?_ | refine RowIn.drew ?_ | refine Below.drew ?_) | (with_reducible refine Blk.new' ?_ ?_ <;> first | (with_reducible rfl) | (simp; done)) | (with_reducible first | refine Blk.alloc ?_ _ | refine RowIn.alloc ?_ _ | refine Below.alloc ?_ ?_ _ | apply Blk.set' | apply Blk.far' | refine RowIn.far' ?_ ?_ _ | refine Below.far' ?_ ?_ _ | refine Blk.after ?_ b6 | refine RowIn.belowS ?_ b6 | refine Below.after ?_ b6 ?_) | (exact (Eq.refl _ : (_ : List Value) = _)) | omega | go_size)
        clear zs_5 zo_5 rs_5 rb_5 rt_5 rc_5 rv_5 bb_5 ks_5 fs_5 ls_5 ko_5 fo_5 lo_5 b6
        have ks_6 := zs_6.cell; have fs_6 := zs_6.frozen; have ls_6 := zs_6.lt
        have ko_6 := zo_6.cell; have fo_6 := zo_6.frozen; have lo_6 := zo_6.lt
        clear rx rlx
        go_wp2_with fail
        refine (h2.out As cs _ (by exact RowIn.row (lo := 0) (hi := w.heap.size) (by repeat' (first | (with_reducible first | assumption | exact Below.refl _ _ | refine Blk.drewN ?_ _ | refine RowIn.drewN ?_ _ | refine below_drewN ?_ _ | refine Blk.drew ?_ | refine RowIn.drew ?_ | refine Below.drew ?_) | (with_reducible refine Blk.new' ?_ ?_ <;> first | (with_reducible rfl) | (simp; done)) | (with_reducible first | refine Blk.alloc ?_ _ | refine RowIn.alloc ?_ _ | refine Below.alloc ?_ ?_ _ | apply Blk.set' | apply Blk.far' | refine RowIn.far' ?_ ?_ _ | refine Below.far' ?_ ?_ _) | (exact (Eq.refl _ : (_ : List Value) = _)) | omega | go_size))) hcs Ab cb (by exact RowIn.row (lo := 0) (hi := w.heap.size) (by repeat' (first | (with_reducible first | assumption | exact Below.refl _ _ | refine Blk.drewN ?_ _ | refine RowIn.drewN ?_ _ | refine below_drewN ?_ _ | refine Blk.drew ?_ | refine RowIn.drew ?_ | refine Below.drew ?_) | (with_reducible refine Blk.new' ?_ ?_ <;> first | (with_reducible rfl) | (simp; done)) | (with_reducible first | refine Blk.alloc ?_ _ | refine RowIn.alloc ?_ _ | refine Below.alloc ?_ ?_ _ | apply Blk.set' | apply Blk.far' | refine RowIn.far' ?_ ?_ _ | refine Below.far' ?_ ?_ _) | (exact (Eq.refl _ : (_ : List Value) = _)) | omega | go_size))) hcb).mono ?_
        rintro e w7 ⟨b7, s0, s1, t0, tz, my, cy, ky, dy, Ay, By, xy, zy, rfl, HDy, hcy, HXy, ry, hdy, HZy, rly⟩
        replace ry := ry.mono (lo' := w6.heap.size + 1) (by go_size) (Nat.le_refl _)
        replace rly := rly.mono (lo' := w6.heap.size + 1) (by go_size) (Nat.le_refl _)
        have lny := rly.len
        have he := HDx.out.trans HDy.out.symm
        injection he with he0 he1 he2 he3
        obtain rfl : u0 = s0 := he0
        obtain rfl : u1 = s1 := he1
        obtain rfl : v0 = t0 := he2
        obtain rfl : v1 = tz := he3
        clear HDx HDy
        have s7 := b7.size
        try simp only [World.size_alloc, World.size_setCell, World.size_drew, size_drewN] at s7
        obtain ⟨zs_7, zo_7, zx_7, rs_7, rb_7, rt_7, rc_7, rv_7, rx_7, rlx_7, ry_7, rly_7, bb_7⟩ : Blk w7 (w.heap.size) 40 [.int .i64 (L : Int), .int .i64 (p0 : Int), .int .i64 (p1 : Int), .int .u64 (q0 : Int), .int .u64 (q1 : Int), .slice As ns cs, .int .i64 Ns] ∧ Blk w7 (go) 40 [.int .i64 (L : Int), .int .i64 (p0 : Int), .int .i64 (p1 : Int), .int .u64 (q0 : Int), .int .u64 (q1 : Int), .slice At ns ct, .int .i64 Ns] ∧ Blk w7 (w6.heap.size) 40 [.int .i64 (n2 : Int), .int .i64 (u0 : Int), .int .i64 (u1 : Int), .int .u64 (v0 : Int), .int .u64 (v1 : Int), .slice Ax mx cx, .int .i64 (((xx.length : Nat)) : Int)] ∧ RowIn .u8 w7 (0) (w.heap.size) As ns xss ∧ RowIn .u8 w7 (0) (w.heap.size) Ab nb xsb ∧ RowIn .u8 w7 (0) (w.heap.size) (some ⟨0, 0, none⟩) 64 dbTab ∧ RowIn .u8 w7 (w2.heap.size) (hi) Ao nb xsb ∧ RowIn .u8 w7 (w3.heap.size) (hi) At ns xss ∧ RowIn .u8 w7 (w5.heap.size) (w6.heap.size) Ax mx (pack xx) ∧ RowIn .u32 w7 (w5.heap.size) (w6.heap.size) Bx kx zx ∧ RowIn .u8 w7 (w6.heap.size + 1) (w7.heap.size) Ay my (pack xy) ∧ RowIn .u32 w7 (w6.heap.size + 1) (w7.heap.size) By ky zy ∧ Below w.heap.size w w7 := by
          refine ⟨?_, ?_, ?_, ?_, ?_, ?_, ?_, ?_, ?_, ?_, ?_, ?_, ?_⟩
          all_goals repeat' (first | (with_reducible first | assumption | exact Below.refl _ _ | refine Blk.drewN ?_ _ | refine RowIn.drewN ?_ _ | refine below_drewN ?_ _ | refine Blk.drew ?_ | refine RowIn.drew ?_ | refine Below.drew ?_) | (with_reducible refine Blk.new' ?_ ?_ <;> first | (with_reducible rfl) | (simp; done)) | (with_reducible first | refine Blk.alloc ?_ _ | refine RowIn.alloc ?_ _ | refine Below.alloc ?_ ?_ _ | apply Blk.set' | apply Blk.far' | refine RowIn.far' ?_ ?_ _ | refine Below.far' ?_ ?_ _ | refine Blk.after ?_ b7 | refine RowIn.belowS ?_ b7 | refine Below.after ?_ b7 ?_) | (exact (Eq.refl _ : (_ : List Value) = _)) | omega | go_size)
        clear zs_6 zo_6 rs_6 rb_6 rt_6 rc_6 rv_6 rx_6 rlx_6 bb_6 ks_6 fs_6 ls_6 ko_6 fo_6 lo_6 b7
        have ks_7 := zs_7.cell; have fs_7 := zs_7.frozen; have ls_7 := zs_7.lt
        have ko_7 := zo_7.cell; have fo_7 := zo_7.frozen; have lo_7 := zo_7.lt
        have kx_7 := zx_7.cell; have fx_7 := zx_7.frozen; have lx_7 := zx_7.lt
        clear ry rly
        have HE1 : Hid (pack xx = pack xy) := Lib.hid (by rw [HXx.out, HXy.out])
        have HE2 : Hid (((xx.length : Nat) : Int) = ((xy.length : Nat) : Int)) := Lib.hid (by rw [HXx.out, HXy.out])
        have HE3 : Hid (zx = zy) := Lib.hid (by rw [HZx.out, HZy.out])
        have te : ((0 : Int) == 0) = true := rfl
        go_wp2_with fail
        obtain ⟨w8, hw8⟩ : ∃ w8, w8 = w7.alloc (.cells #[.int .i64 (n2 : Int), .int .i64 (u0 : Int), .int .i64 (u1 : Int), .int .u64 (v0 : Int), .int .u64 (v1 : Int), .slice Ay my cy, .int .i64 (((xy.length : Nat)) : Int)] 40) := ⟨_, rfl⟩
        obtain ⟨zs_8, zo_8, zx_8, zy_8, rs_8, rb_8, rt_8, rc_8, rv_8, rx_8, rlx_8, ry_8, rly_8, bb_8, s8⟩ : Blk w8 (w.heap.size) 40 [.int .i64 (L : Int), .int .i64 (p0 : Int), .int .i64 (p1 : Int), .int .u64 (q0 : Int), .int .u64 (q1 : Int), .slice As ns cs, .int .i64 Ns] ∧ Blk w8 (go) 40 [.int .i64 (L : Int), .int .i64 (p0 : Int), .int .i64 (p1 : Int), .int .u64 (q0 : Int), .int .u64 (q1 : Int), .slice At ns ct, .int .i64 Ns] ∧ Blk w8 (w6.heap.size) 40 [.int .i64 (n2 : Int), .int .i64 (u0 : Int), .int .i64 (u1 : Int), .int .u64 (v0 : Int), .int .u64 (v1 : Int), .slice Ax mx cx, .int .i64 (((xx.length : Nat)) : Int)] ∧ Blk w8 (w7.heap.size) 40 [.int .i64 (n2 : Int), .int .i64 (u0 : Int), .int .i64 (u1 : Int), .int .u64 (v0 : Int), .int .u64 (v1 : Int), .slice Ay my cy, .int .i64 (((xy.length : Nat)) : Int)] ∧ RowIn .u8 w8 (0) (w.heap.size) As ns xss ∧ RowIn .u8 w8 (0) (w.heap.size) Ab nb xsb ∧ RowIn .u8 w8 (0) (w.heap.size) (some ⟨0, 0, none⟩) 64 dbTab ∧ RowIn .u8 w8 (w2.heap.size) (hi) Ao nb xsb ∧ RowIn .u8 w8 (w3.heap.size) (hi) At ns xss ∧ RowIn .u8 w8 (w5.heap.size) (w6.heap.size) Ax mx (pack xx) ∧ RowIn .u32 w8 (w5.heap.size) (w6.heap.size) Bx kx zx ∧ RowIn .u8 w8 (w6.heap.size + 1) (w7.heap.size) Ay my (pack xy) ∧ RowIn .u32 w8 (w6.heap.size + 1) (w7.heap.size) By ky zy ∧ Below w.heap.size w w8 ∧ w7.heap.size ≤ w8.heap.size := by
          rw [hw8]
          refine ⟨?_, ?_, ?_, ?_, ?_, ?_, ?_, ?_, ?_, ?_, ?_, ?_, ?_, ?_, by go_size⟩
          all_goals repeat' (first | (with_reducible first | assumption | exact Below.refl _ _ | refine Blk.drewN ?_ _ | refine RowIn.drewN ?_ _ | refine below_drewN ?_ _ | refine Blk.drew ?_ | refine RowIn.drew ?_ | refine Below.drew ?_) | (with_reducible refine Blk.new' ?_ ?_ <;> first | (with_reducible rfl) | (simp; done)) | (with_reducible first | refine Blk.alloc ?_ _ | refine RowIn.alloc ?_ _ | refine Below.alloc ?_ ?_ _ | apply Blk.set' | apply Blk.far' | refine RowIn.far' ?_ ?_ _ | refine Below.far' ?_ ?_ _) | (exact (Eq.refl _ : (_ : List Value) = _)) | omega | go_size)
        rw [← hw8]
        clear hw8
        clear zs_7 zo_7 zx_7 rs_7 rb_7 rt_7 rc_7 rv_7 rx_7 rlx_7 ry_7 rly_7 bb_7 ks_7 fs_7 ls_7 ko_7 fo_7 lo_7 kx_7 fx_7 lx_7
        have ks_8 := zs_8.cell; have fs_8 := zs_8.frozen; have ls_8 := zs_8.lt
        have ko_8 := zo_8.cell; have fo_8 := zo_8.frozen; have lo_8 := zo_8.lt
        have kx_8 := zx_8.cell; have fx_8 := zx_8.frozen; have lx_8 := zx_8.lt
        have ky_8 := zy_8.cell; have fy_8 := zy_8.frozen; have ly_8 := zy_8.lt
        try simp only [List.append_eq, List.cons_append, List.nil_append]
        have tstr : ((strOfNums xsb).toList == (strOfNums xsb).toList) = true := by simp
        have hkx4 : kx ≤ 4000 := by rw [← lnx, HZx.out, ints_len]; exact HG4.out
        have ks_8d := (Blk.drew zs_8).cell; have ko_8d := (Blk.drew zo_8).cell; have kx_8d := (Blk.drew zx_8).cell; have ky_8d := (Blk.drew zy_8).cell
        have xc_8 := run_str (P := Tryd.prog) (src := 22) (dst := 9) Tryd.underlying22 Tryd.underlying5 Tryd.underlying9 co rc_8.row
        have xc_8d := run_str (P := Tryd.prog) (src := 22) (dst := 9) Tryd.underlying22 Tryd.underlying5 Tryd.underlying9 co (RowIn.drew rc_8).row
        have xb_8 := run_str (P := Tryd.prog) (src := 22) (dst := 9) Tryd.underlying22 Tryd.underlying5 Tryd.underlying9 cb rb_8.row
        have xb_8d := run_str (P := Tryd.prog) (src := 22) (dst := 9) Tryd.underlying22 Tryd.underlying5 Tryd.underlying9 cb (RowIn.drew rb_8).row
        go_region_held3 (fun w' => (∀ a, w'.cell? ⟨w.heap.size, a, none⟩ = [.int .i64 (L : Int), .int .i64 (p0 : Int), .int .i64 (p1 : Int), .int .u64 (q0 : Int), .int .u64 (q1 : Int), .slice As ns cs, .int .i64 Ns][a]?) ∧ (∀ a, w'.cell? ⟨go, a, none⟩ = [.int .i64 (L : Int), .int .i64 (p0 : Int), .int .i64 (p1 : Int), .int .u64 (q0 : Int), .int .u64 (q1 : Int), .slice At ns ct, .int .i64 Ns][a]?) ∧ (∀ a, w'.cell? ⟨w6.heap.size, a, none⟩ = [.int .i64 (n2 : Int), .int .i64 (u0 : Int), .int .i64 (u1 : Int), .int .u64 (v0 : Int), .int .u64 (v1 : Int), .slice Ax mx cx, .int .i64 (((xx.length : Nat)) : Int)][a]?) ∧ (∀ a, w'.cell? ⟨w7.heap.size, a, none⟩ = [.int .i64 (n2 : Int), .int .i64 (u0 : Int), .int .i64 (u1 : Int), .int .u64 (v0 : Int), .int .u64 (v1 : Int), .slice Ay my cy, .int .i64 (((xy.length : Nat)) : Int)][a]?) ∧ (convert 22 9 (.slice Ao nb co)).run Tryd.prog w' = .ok (.string (strOfNums xsb)) w' ∧ (convert 22 9 (.slice Ab nb cb)).run Tryd.prog w' = .ok (.string (strOfNums xsb)) w') (first | with_reducible exact ⟨ks_8, ko_8, kx_8, ky_8, xc_8, xb_8⟩ | with_reducible exact ⟨ks_8d, ko_8d, kx_8d, ky_8d, xc_8d, xb_8d⟩ | with_reducible exact ⟨ks_9, ko_9, kx_9, ky_9, xc_9, xb_9⟩ | with_reducible exact ⟨ks_10, ko_10, kx_10, ky_10, xc_10, xb_10⟩ | with_reducible exact ⟨ks_11, ko_11, kx_11, ky_11, xc_11, xb_11⟩ | with_reducible exact ⟨ks_12, ko_12, kx_12, ky_12, xc_12, xb_12⟩ | with_reducible exact ⟨ks_13, ko_13, kx_13, ky_13, xc_13, xb_13⟩) (first
          | (go_simp; go_at_call 26; refine (h3.out At ct _ (RowIn.drew rv_8).row hct (RowIn.drew rt_8).row).mono ?_
             rintro e w9 ⟨rfl, b9⟩
             have s9 : w8.heap.size ≤ w9.heap.size := b9.size
             have zs_9 := ((Blk.drew zs_8)).after b9; have ks_9 := zs_9.cell; have fs_9 := zs_9.frozen; have ls_9 := zs_9.lt
             have zo_9 := ((Blk.drew zo_8)).after b9; have ko_9 := zo_9.cell; have fo_9 := zo_9.frozen; have lo_9 := zo_9.lt
             have zx_9 := ((Blk.drew zx_8)).after b9; have kx_9 := zx_9.cell; have fx_9 := zx_9.frozen; have lx_9 := zx_9.lt
             have zy_9 := ((Blk.drew zy_8)).after b9; have ky_9 := zy_9.cell; have fy_9 := zy_9.frozen; have ly_9 := zy_9.lt
             have rs_9 := ((RowIn.drew rs_8)).belowS b9
             have rb_9 := ((RowIn.drew rb_8)).belowS b9
             have rt_9 := ((RowIn.drew rt_8)).belowS b9
             have rc_9 := ((RowIn.drew rc_8)).belowS b9
             have rv_9 := ((RowIn.drew rv_8)).belowS b9
             have rx_9 := ((RowIn.drew rx_8)).belowS b9
             have rlx_9 := ((RowIn.drew rlx_8)).belowS b9
             have ry_9 := ((RowIn.drew ry_8)).belowS b9
             have rly_9 := ((RowIn.drew rly_8)).belowS b9
             have bb_9 := Below.after (Below.drew bb_8) b9 bb_8.size
             have xc_9 := run_str (P := Tryd.prog) (src := 22) (dst := 9) Tryd.underlying22 Tryd.underlying5 Tryd.underlying9 co rc_9.row
             have xb_9 := run_str (P := Tryd.prog) (src := 22) (dst := 9) Tryd.underlying22 Tryd.underlying5 Tryd.underlying9 cb rb_9.row)
          | (go_simp; go_at_call 27; refine (h4.out As cs _ rs_9.row hcs).mono ?_
             rintro e w10 ⟨rfl, b10⟩
             have s10 : w9.heap.size ≤ w10.heap.size := b10.size
             have zs_10 := (zs_9).after b10; have ks_10 := zs_10.cell; have fs_10 := zs_10.frozen; have ls_10 := zs_10.lt
             have zo_10 := (zo_9).after b10; have ko_10 := zo_10.cell; have fo_10 := zo_10.frozen; have lo_10 := zo_10.lt
             have zx_10 := (zx_9).after b10; have kx_10 := zx_10.cell; have fx_10 := zx_10.frozen; have lx_10 := zx_10.lt
             have zy_10 := (zy_9).after b10; have ky_10 := zy_10.cell; have fy_10 := zy_10.frozen; have ly_10 := zy_10.lt
             have rs_10 := (rs_9).belowS b10
             have rb_10 := (rb_9).belowS b10
             have rt_10 := (rt_9).belowS b10
             have rc_10 := (rc_9).belowS b10
             have rv_10 := (rv_9).belowS b10
             have rx_10 := (rx_9).belowS b10
             have rlx_10 := (rlx_9).belowS b10
             have ry_10 := (ry_9).belowS b10
             have rly_10 := (rly_9).belowS b10
             have bb_10 := Below.after bb_9 b10 bb_9.size
             have xc_10 := run_str (P := Tryd.prog) (src := 22) (dst := 9) Tryd.underlying22 Tryd.underlying5 Tryd.underlying9 co rc_10.row
             have xb_10 := run_str (P := Tryd.prog) (src := 22) (dst := 9) Tryd.underlying22 Tryd.underlying5 Tryd.underlying9 cb rb_10.row)
          | (go_simp; go_at_call_of 28 Ax; refine (rrsame_eq n2 u0 u1 v0 v1 _ _ mx cx my cy Ax Ay (pack xx) (pack xy) _ rx_10.row ry_10.row (pack_u8 _) HE1.out HE2.out).mono ?_
             rintro e w11 ⟨rfl, b11⟩
             have s11 : w10.heap.size ≤ w11.heap.size := b11.size
             have zs_11 := (zs_10).after b11; have ks_11 := zs_11.cell; have fs_11 := zs_11.frozen; have ls_11 := zs_11.lt
             have zo_11 := (zo_10).after b11; have ko_11 := zo_11.cell; have fo_11 := zo_11.frozen; have lo_11 := zo_11.lt
             have zx_11 := (zx_10).after b11; have kx_11 := zx_11.cell; have fx_11 := zx_11.frozen; have lx_11 := zx_11.lt
             have zy_11 := (zy_10).after b11; have ky_11 := zy_11.cell; have fy_11 := zy_11.frozen; have ly_11 := zy_11.lt
             have rs_11 := (rs_10).belowS b11
             have rb_11 := (rb_10).belowS b11
             have rt_11 := (rt_10).belowS b11
             have rc_11 := (rc_10).belowS b11
             have rv_11 := (rv_10).belowS b11
             have rx_11 := (rx_10).belowS b11
             have rlx_11 := (rlx_10).belowS b11
             have ry_11 := (ry_10).belowS b11
             have rly_11 := (rly_10).belowS b11
             have bb_11 := Below.after bb_10 b11 bb_10.size
             have xc_11 := run_str (P := Tryd.prog) (src := 22) (dst := 9) Tryd.underlying22 Tryd.underlying5 Tryd.underlying9 co rc_11.row
             have xb_11 := run_str (P := Tryd.prog) (src := 22) (dst := 9) Tryd.underlying22 Tryd.underlying5 Tryd.underlying9 cb rb_11.row)
          | (go_simp; go_at_call 21; refine (r9same_eq Bx By kx dx ky dy zx zy _ rlx_11.row rly_11.row (by omega) HE3.out).mono ?_
             rintro e w12 ⟨rfl, b12⟩
             have s12 : w11.heap.size ≤ w12.heap.size := b12.size
             have zs_12 := (zs_11).after b12; have ks_12 := zs_12.cell; have fs_12 := zs_12.frozen; have ls_12 := zs_12.lt
             have zo_12 := (zo_11).after b12; have ko_12 := zo_12.cell; have fo_12 := zo_12.frozen; have lo_12 := zo_12.lt
             have zx_12 := (zx_11).after b12; have kx_12 := zx_12.cell; have fx_12 := zx_12.frozen; have lx_12 := zx_12.lt
             have zy_12 := (zy_11).after b12; have ky_12 := zy_12.cell; have fy_12 := zy_12.frozen; have ly_12 := zy_12.lt
             have rs_12 := (rs_11).belowS b12
             have rb_12 := (rb_11).belowS b12
             have rt_12 := (rt_11).belowS b12
             have rc_12 := (rc_11).belowS b12
             have rv_12 := (rv_11).belowS b12
             have rx_12 := (rx_11).belowS b12
             have rlx_12 := (rlx_11).belowS b12
             have ry_12 := (ry_11).belowS b12
             have rly_12 := (rly_11).belowS b12
             have bb_12 := Below.after bb_11 b12 bb_11.size
             have xc_12 := run_str (P := Tryd.prog) (src := 22) (dst := 9) Tryd.underlying22 Tryd.underlying5 Tryd.underlying9 co rc_12.row
             have xb_12 := run_str (P := Tryd.prog) (src := 22) (dst := 9) Tryd.underlying22 Tryd.underlying5 Tryd.underlying9 cb rb_12.row)
          | (go_simp; go_at_call_of 28 At; refine (rrsame_eq L p0 p1 q0 q1 Ns Ns ns ct ns cs At As xss xss _ rv_12.row rs_12.row hxs rfl rfl).mono ?_
             rintro e w13 ⟨rfl, b13⟩
             have s13 : w12.heap.size ≤ w13.heap.size := b13.size
             have zs_13 := (zs_12).after b13; have ks_13 := zs_13.cell; have fs_13 := zs_13.frozen; have ls_13 := zs_13.lt
             have zo_13 := (zo_12).after b13; have ko_13 := zo_13.cell; have fo_13 := zo_13.frozen; have lo_13 := zo_13.lt
             have zx_13 := (zx_12).after b13; have kx_13 := zx_13.cell; have fx_13 := zx_13.frozen; have lx_13 := zx_13.lt
             have zy_13 := (zy_12).after b13; have ky_13 := zy_13.cell; have fy_13 := zy_13.frozen; have ly_13 := zy_13.lt
             have rs_13 := (rs_12).belowS b13
             have rb_13 := (rb_12).belowS b13
             have rt_13 := (rt_12).belowS b13
             have rc_13 := (rc_12).belowS b13
             have rv_13 := (rv_12).belowS b13
             have rx_13 := (rx_12).belowS b13
             have rlx_13 := (rlx_12).belowS b13
             have ry_13 := (ry_12).belowS b13
             have rly_13 := (rly_12).belowS b13
             have bb_13 := Below.after bb_12 b13 bb_12.size
             have xc_13 := run_str (P := Tryd.prog) (src := 22) (dst := 9) Tryd.underlying22 Tryd.underlying5 Tryd.underlying9 co rc_13.row
             have xb_13 := run_str (P := Tryd.prog) (src := 22) (dst := 9) Tryd.underlying22 Tryd.underlying5 Tryd.underlying9 cb rb_13.row))
        all_goals
          go_wp2
          go_ret
          refine ⟨rfl, ?_⟩
          repeat' (first | (with_reducible first | assumption | exact Below.refl _ _ | refine Blk.drewN ?_ _ | refine RowIn.drewN ?_ _ | refine below_drewN ?_ _ | refine Blk.drew ?_ | refine RowIn.drew ?_ | refine Below.drew ?_) | (with_reducible refine Blk.new' ?_ ?_ <;> first | (with_reducible rfl) | (simp; done)) | (with_reducible first | refine Blk.alloc ?_ _ | refine RowIn.alloc ?_ _ | refine Below.alloc ?_ ?_ _ | apply Blk.set' | apply Blk.far' | refine RowIn.far' ?_ ?_ _ | refine Below.far' ?_ ?_ _) | (exact (Eq.refl _ : (_ : List Value) = _)) | omega | go_size)
      · refine (h1.out At ct _ (by exact RowIn.row (lo := w3.heap.size) (hi := hi) (by repeat' (first | (with_reducible first | assumption | exact Below.refl _ _ | refine Blk.drewN ?_ _ | refine RowIn.drewN ?_ _ | refine below_drewN ?_ _ | refine Blk.drew ?_ | refine RowIn.drew ?_ | refine Below.drew ?_) | (with_reducible refine Blk.new' ?_ ?_ <;> first | (with_reducible rfl) | (simp; done)) | (with_reducible first | refine Blk.alloc ?_ _ | refine RowIn.alloc ?_ _ | refine Below.alloc ?_ ?_ _ | apply Blk.set' | apply Blk.far' | refine RowIn.far' ?_ ?_ _ | refine Below.far' ?_ ?_ _) | (exact (Eq.refl _ : (_ : List Value) = _)) | omega | go_size))) hct Ao co (by exact RowIn.row (lo := w2.heap.size) (hi := hi) (by repeat' (first | (with_reducible first | assumption | exact Below.refl _ _ | refine Blk.drewN ?_ _ | refine RowIn.drewN ?_ _ | refine below_drewN ?_ _ | refine Blk.drew ?_ | refine RowIn.drew ?_ | refine Below.drew ?_) | (with_reducible refine Blk.new' ?_ ?_ <;> first | (with_reducible rfl) | (simp; done)) | (with_reducible first | refine Blk.alloc ?_ _ | refine RowIn.alloc ?_ _ | refine Below.alloc ?_ ?_ _ | apply Blk.set' | apply Blk.far' | refine RowIn.far' ?_ ?_ _ | refine Below.far' ?_ ?_ _) | (exact (Eq.refl _ : (_ : List Value) = _)) | omega | go_size))) hco (by exact RowIn.row (lo := 0) (hi := w.heap.size) (by repeat' (first | (with_reducible first | assumption | exact Below.refl _ _ | refine Blk.drewN ?_ _ | refine RowIn.drewN ?_ _ | refine below_drewN ?_ _ | refine Blk.drew ?_ | refine RowIn.drew ?_ | refine Below.drew ?_) | (with_reducible refine Blk.new' ?_ ?_ <;> first | (with_reducible rfl) | (simp; done)) | (with_reducible first | refine Blk.alloc ?_ _ | refine RowIn.alloc ?_ _ | refine Below.alloc ?_ ?_ _ | apply Blk.set' | apply Blk.far' | refine RowIn.far' ?_ ?_ _ | refine Below.far' ?_ ?_ _) | (exact (Eq.refl _ : (_ : List Value) = _)) | omega | go_size)))).mono ?_
        rintro e w6 ⟨b6, u0, u1, v0, v1, mx, cx, kx, dx, Ax, Bx, xx, zx, rfl, HDx, hcx, HXx, rx, hdx, HZx, rlx⟩
        replace rx := rx.mono (lo' := w5.heap.size) (by go_size) (Nat.le_refl _)
        replace rlx := rlx.mono (lo' := w5.heap.size) (by go_size) (Nat.le_refl _)
        have lnx := rlx.len
        have s6 := b6.size
        try simp only [World.size_alloc, World.size_setCell, World.size_drew, size_drewN] at s6
        obtain ⟨zs_6, zo_6, rs_6, rb_6, rt_6, rc_6, rv_6, rx_6, rlx_6, bb_6⟩ : Blk w6 (w.heap.size) 40 [.int .i64 (L : Int), .int .i64 (p0 : Int), .int .i64 (p1 : Int), .int .u64 (q0 : Int), .int .u64 (q1 : Int), .slice As ns cs, .int .i64 Ns] ∧ Blk w6 (go) 40 [.int .i64 (L : Int), .int .i64 (p0 : Int), .int .i64 (p1 : Int), .int .u64 (q0 : Int), .int .u64 (q1 : Int), .slice At ns ct, .int .i64 Ns] ∧ RowIn .u8 w6 (0) (w.heap.size) As ns xss ∧ RowIn .u8 w6 (0) (w.heap.size) Ab nb xsb ∧ RowIn .u8 w6 (0) (w.heap.size) (some ⟨0, 0, none⟩) 64 dbTab ∧ RowIn .u8 w6 (w2.heap.size) (hi) Ao nb xsb ∧ RowIn .u8 w6 (w3.heap.size) (hi) At ns xss ∧ RowIn .u8 w6 (w5.heap.size) (w6.heap.size) Ax mx (pack xx) ∧ RowIn .u32 w6 (w5.heap.size) (w6.heap.size) Bx kx zx ∧ Below w.heap.size w w6 := by
          refine ⟨?_, ?_, ?_, ?_, ?_, ?_, ?_, ?_, ?_, ?_⟩
          all_goals repeat' (first | (with_reducible first | assumption | exact Below.refl _ _ | refine Blk.drewN ?_ _ | refine RowIn.drewN ?_ _ | refine below_drewN ?_ _ | refine Blk.drew ?_ | refine RowIn.drew ?_ | refine Below.drew ?_) | (with_reducible refine Blk.new' ?_ ?_ <;> first | (with_reducible rfl) | (simp; done)) | (with_reducible first | refine Blk.alloc ?_ _ | refine RowIn.alloc ?_ _ | refine Below.alloc ?_ ?_ _ | apply Blk.set' | apply Blk.far' | refine RowIn.far' ?_ ?_ _ | refine Below.far' ?_ ?_ _ | refine Blk.after ?_ b6 | refine RowIn.belowS ?_ b6 | refine Below.after ?_ b6 ?_) | (exact (Eq.refl _ : (_ : List Value) = _)) | omega | go_size)
        clear zs_5 zo_5 rs_5 rb_5 rt_5 rc_5 rv_5 bb_5 ks_5 fs_5 ls_5 ko_5 fo_5 lo_5 b6
        have ks_6 := zs_6.cell; have fs_6 := zs_6.frozen; have ls_6 := zs_6.lt
        have ko_6 := zo_6.cell; have fo_6 := zo_6.frozen; have lo_6 := zo_6.lt
        clear rx rlx
        go_wp2_with fail
        refine (h2.out As cs _ (by exact RowIn.row (lo := 0) (hi := w.heap.size) (by repeat' (first | (with_reducible first | assumption | exact Below.refl _ _ | refine Blk.drewN ?_ _ | refine RowIn.drewN ?_ _ | refine below_drewN ?_ _ | refine Blk.drew ?_ | refine RowIn.drew ?_ | refine Below.drew ?_) | (with_reducible refine Blk.new' ?_ ?_ <;> first | (with_reducible rfl) | (simp; done)) | (with_reducible first | refine Blk.alloc ?_ _ | refine RowIn.alloc ?_ _ | refine Below.alloc ?_ ?_ _ | apply Blk.set' | apply Blk.far' | refine RowIn.far' ?_ ?_ _ | refine Below.far' ?_ ?_ _) | (exact (Eq.refl _ : (_ : List Value) = _)) | omega | go_size))) hcs Ab cb (by exact RowIn.row (lo := 0) (hi := w.heap.size) (by repeat' (first | (with_reducible first | assumption | exact Below.refl _ _ | refine Blk.drewN ?_ _ | refine RowIn.drewN ?_ _ | refine below_drewN ?_ _ | refine Blk.drew ?_ | refine RowIn.drew ?_ | refine Below.drew ?_) | (with_reducible refine Blk.new' ?_ ?_ <;> first | (with_reducible rfl) | (simp; done)) | (with_reducible first | refine Blk.alloc ?_ _ | refine RowIn.alloc ?_ _ | refine Below.alloc ?_ ?_ _ | apply Blk.set' | apply Blk.far' | refine RowIn.far' ?_ ?_ _ | refine Below.far' ?_ ?_ _) | (exact (Eq.refl _ : (_ : List Value) = _)) | omega | go_size))) hcb).mono ?_
        rintro e w7 ⟨b7, s0, s1, t0, tz, my, cy, ky, dy, Ay, By, xy, zy, rfl, HDy, hcy, HXy, ry, hdy, HZy, rly⟩
        replace ry := ry.mono (lo' := w6.heap.size + 1) (by go_size) (Nat.le_refl _)
        replace rly := rly.mono (lo' := w6.heap.size + 1) (by go_size) (Nat.le_refl _)
        have lny := rly.len
        have he := HDx.out.trans HDy.out.symm
        injection he with he0 he1 he2 he3
        obtain rfl : u0 = s0 := he0
        obtain rfl : u1 = s1 := he1
        obtain rfl : v0 = t0 := he2
        obtain rfl : v1 = tz := he3
        clear HDx HDy
        have s7 := b7.size
        try simp only [World.size_alloc, World.size_setCell, World.size_drew, size_drewN] at s7
        obtain ⟨zs_7, zo_7, zx_7, rs_7, rb_7, rt_7, rc_7, rv_7, rx_7, rlx_7, ry_7, rly_7, bb_7⟩ : Blk w7 (w.heap.size) 40 [.int .i64 (L : Int), .int .i64 (p0 : Int), .int .i64 (p1 : Int), .int .u64 (q0 : Int), .int .u64 (q1 : Int), .slice As ns cs, .int .i64 Ns] ∧ Blk w7 (go) 40 [.int .i64 (L : Int), .int .i64 (p0 : Int), .int .i64 (p1 : Int), .int .u64 (q0 : Int), .int .u64 (q1 : Int), .slice At ns ct, .int .i64 Ns] ∧ Blk w7 (w6.heap.size) 40 [.int .i64 (n2 : Int), .int .i64 (u0 : Int), .int .i64 (u1 : Int), .int .u64 (v0 : Int), .int .u64 (v1 : Int), .slice Ax mx cx, .int .i64 (((xx.length : Nat)) : Int)] ∧ RowIn .u8 w7 (0) (w.heap.size) As ns xss ∧ RowIn .u8 w7 (0) (w.heap.size) Ab nb xsb ∧ RowIn .u8 w7 (0) (w.heap.size) (some ⟨0, 0, none⟩) 64 dbTab ∧ RowIn .u8 w7 (w2.heap.size) (hi) Ao nb xsb ∧ RowIn .u8 w7 (w3.heap.size) (hi) At ns xss ∧ RowIn .u8 w7 (w5.heap.size) (w6.heap.size) Ax mx (pack xx) ∧ RowIn .u32 w7 (w5.heap.size) (w6.heap.size) Bx kx zx ∧ RowIn .u8 w7 (w6.heap.size + 1) (w7.heap.size) Ay my (pack xy) ∧ RowIn .u32 w7 (w6.heap.size + 1) (w7.heap.size) By ky zy ∧ Below w.heap.size w w7 := by
          refine ⟨?_, ?_, ?_, ?_, ?_, ?_, ?_, ?_, ?_, ?_, ?_, ?_, ?_⟩
          all_goals repeat' (first | (with_reducible first | assumption | exact Below.refl _ _ | refine Blk.drewN ?_ _ | refine RowIn.drewN ?_ _ | refine below_drewN ?_ _ | refine Blk.drew ?_ | refine RowIn.drew ?_ | refine Below.drew ?_) | (with_reducible refine Blk.new' ?_ ?_ <;> first | (with_reducible rfl) | (simp; done)) | (with_reducible first | refine Blk.alloc ?_ _ | refine RowIn.alloc ?_ _ | refine Below.alloc ?_ ?_ _ | apply Blk.set' | apply Blk.far' | refine RowIn.far' ?_ ?_ _ | refine Below.far' ?_ ?_ _ | refine Blk.after ?_ b7 | refine RowIn.belowS ?_ b7 | refine Below.after ?_ b7 ?_) | (exact (Eq.refl _ : (_ : List Value) = _)) | omega | go_size)
        clear zs_6 zo_6 rs_6 rb_6 rt_6 rc_6 rv_6 rx_6 rlx_6 bb_6 ks_6 fs_6 ls_6 ko_6 fo_6 lo_6 b7
        have ks_7 := zs_7.cell; have fs_7 := zs_7.frozen; have ls_7 := zs_7.lt
        have ko_7 := zo_7.cell; have fo_7 := zo_7.frozen; have lo_7 := zo_7.lt
        have kx_7 := zx_7.cell; have fx_7 := zx_7.frozen; have lx_7 := zx_7.lt
        clear ry rly
        have HE1 : Hid (pack xx = pack xy) := Lib.hid (by rw [HXx.out, HXy.out])
        have HE2 : Hid (((xx.length : Nat) : Int) = ((xy.length : Nat) : Int)) := Lib.hid (by rw [HXx.out, HXy.out])
        have HE3 : Hid (zx = zy) := Lib.hid (by rw [HZx.out, HZy.out])
        have te : ((0 : Int) == 0) = true := rfl
        go_wp2_with fail
        obtain ⟨w8, hw8⟩ : ∃ w8, w8 = w7.alloc (.cells #[.int .i64 (n2 : Int), .int .i64 (u0 : Int), .int .i64 (u1 : Int), .int .u64 (v0 : Int), .int .u64 (v1 : Int), .slice Ay my cy, .int .i64 (((xy.length : Nat)) : Int)] 40) := ⟨_, rfl⟩
        obtain ⟨zs_8, zo_8, zx_8, zy_8, rs_8, rb_8, rt_8, rc_8, rv_8, rx_8, rlx_8, ry_8, rly_8, bb_8, s8⟩ : Blk w8 (w.heap.size) 40 [.int .i64 (L : Int), .int .i64 (p0 : Int), .int .i64 (p1 : Int), .int .u64 (q0 : Int), .int .u64 (q1 : Int), .slice As ns cs, .int .i64 Ns] ∧ Blk w8 (go) 40 [.int .i64 (L : Int), .int .i64 (p0 : Int), .int .i64 (p1 : Int), .int .u64 (q0 : Int), .int .u64 (q1 : Int), .slice At ns ct, .int .i64 Ns] ∧ Blk w8 (w6.heap.size) 40 [.int .i64 (n2 : Int), .int .i64 (u0 : Int), .int .i64 (u1 : Int), .int .u64 (v0 : Int), .int .u64 (v1 : Int), .slice Ax mx cx, .int .i64 (((xx.length : Nat)) : Int)] ∧ Blk w8 (w7.heap.size) 40 [.int .i64 (n2 : Int), .int .i64 (u0 : Int), .int .i64 (u1 : Int), .int .u64 (v0 : Int), .int .u64 (v1 : Int), .slice Ay my cy, .int .i64 (((xy.length : Nat)) : Int)] ∧ RowIn .u8 w8 (0) (w.heap.size) As ns xss ∧ RowIn .u8 w8 (0) (w.heap.size) Ab nb xsb ∧ RowIn .u8 w8 (0) (w.heap.size) (some ⟨0, 0, none⟩) 64 dbTab ∧ RowIn .u8 w8 (w2.heap.size) (hi) Ao nb xsb ∧ RowIn .u8 w8 (w3.heap.size) (hi) At ns xss ∧ RowIn .u8 w8 (w5.heap.size) (w6.heap.size) Ax mx (pack xx) ∧ RowIn .u32 w8 (w5.heap.size) (w6.heap.size) Bx kx zx ∧ RowIn .u8 w8 (w6.heap.size + 1) (w7.heap.size) Ay my (pack xy) ∧ RowIn .u32 w8 (w6.heap.size + 1) (w7.heap.size) By ky zy ∧ Below w.heap.size w w8 ∧ w7.heap.size ≤ w8.heap.size := by
          rw [hw8]
          refine ⟨?_, ?_, ?_, ?_, ?_, ?_, ?_, ?_, ?_, ?_, ?_, ?_, ?_, ?_, by go_size⟩
          all_goals repeat' (first | (with_reducible first | assumption | exact Below.refl _ _ | refine Blk.drewN ?_ _ | refine RowIn.drewN ?_ _ | refine below_drewN ?_ _ | refine Blk.drew ?_ | refine RowIn.drew ?_ | refine Below.drew ?_) | (with_reducible refine Blk.new' ?_ ?_ <;> first | (with_reducible rfl) | (simp; done)) | (with_reducible first | refine Blk.alloc ?_ _ | refine RowIn.alloc ?_ _ | refine Below.alloc ?_ ?_ _ | apply Blk.set' | apply Blk.far' | refine RowIn.far' ?_ ?_ _ | refine Below.far' ?_ ?_ _) | (exact (Eq.refl _ : (_ : List Value) = _)) | omega | go_size)
        rw [← hw8]
        clear hw8
        clear zs_7 zo_7 zx_7 rs_7 rb_7 rt_7 rc_7 rv_7 rx_7 rlx_7 ry_7 rly_7 bb_7 ks_7 fs_7 ls_7 ko_7 fo_7 lo_7 kx_7 fx_7 lx_7
        have ks_8 := zs_8.cell; have fs_8 := zs_8.frozen; have ls_8 := zs_8.lt
        have ko_8 := zo_8.cell; have fo_8 := zo_8.frozen; have lo_8 := zo_8.lt
        have kx_8 := zx_8.cell; have fx_8 := zx_8.frozen; have lx_8 := zx_8.lt
        have ky_8 := zy_8.cell; have fy_8 := zy_8.frozen; have ly_8 := zy_8.lt
        try simp only [List.append_eq, List.cons_append, List.nil_append]
        have tstr : ((strOfNums xsb).toList == (strOfNums xsb).toList) = true := by simp
        have hkx4 : kx ≤ 4000 := by rw [← lnx, HZx.out, ints_len]; exact HG4.out
        have ks_8d := (Blk.drew zs_8).cell; have ko_8d := (Blk.drew zo_8).cell; have kx_8d := (Blk.drew zx_8).cell; have ky_8d := (Blk.drew zy_8).cell
        have xc_8 := run_str (P := Tryd.prog) (src := 22) (dst := 9) Tryd.underlying22 Tryd.underlying5 Tryd.underlying9 co rc_8.row
        have xc_8d := run_str (P := Tryd.prog) (src := 22) (dst := 9) Tryd.underlying22 Tryd.underlying5 Tryd.underlying9 co (RowIn.drew rc_8).row
        have xb_8 := run_str (P := Tryd.prog) (src := 22) (dst := 9) Tryd.underlying22 Tryd.underlying5 Tryd.underlying9 cb rb_8.row
        have xb_8d := run_str (P := Tryd.prog) (src := 22) (dst := 9) Tryd.underlying22 Tryd.underlying5 Tryd.underlying9 cb (RowIn.drew rb_8).row
        go_region_held3 (fun w' => (∀ a, w'.cell? ⟨w.heap.size, a, none⟩ = [.int .i64 (L : Int), .int .i64 (p0 : Int), .int .i64 (p1 : Int), .int .u64 (q0 : Int), .int .u64 (q1 : Int), .slice As ns cs, .int .i64 Ns][a]?) ∧ (∀ a, w'.cell? ⟨go, a, none⟩ = [.int .i64 (L : Int), .int .i64 (p0 : Int), .int .i64 (p1 : Int), .int .u64 (q0 : Int), .int .u64 (q1 : Int), .slice At ns ct, .int .i64 Ns][a]?) ∧ (∀ a, w'.cell? ⟨w6.heap.size, a, none⟩ = [.int .i64 (n2 : Int), .int .i64 (u0 : Int), .int .i64 (u1 : Int), .int .u64 (v0 : Int), .int .u64 (v1 : Int), .slice Ax mx cx, .int .i64 (((xx.length : Nat)) : Int)][a]?) ∧ (∀ a, w'.cell? ⟨w7.heap.size, a, none⟩ = [.int .i64 (n2 : Int), .int .i64 (u0 : Int), .int .i64 (u1 : Int), .int .u64 (v0 : Int), .int .u64 (v1 : Int), .slice Ay my cy, .int .i64 (((xy.length : Nat)) : Int)][a]?) ∧ (convert 22 9 (.slice Ao nb co)).run Tryd.prog w' = .ok (.string (strOfNums xsb)) w' ∧ (convert 22 9 (.slice Ab nb cb)).run Tryd.prog w' = .ok (.string (strOfNums xsb)) w') (first | with_reducible exact ⟨ks_8, ko_8, kx_8, ky_8, xc_8, xb_8⟩ | with_reducible exact ⟨ks_8d, ko_8d, kx_8d, ky_8d, xc_8d, xb_8d⟩ | with_reducible exact ⟨ks_9, ko_9, kx_9, ky_9, xc_9, xb_9⟩ | with_reducible exact ⟨ks_10, ko_10, kx_10, ky_10, xc_10, xb_10⟩ | with_reducible exact ⟨ks_11, ko_11, kx_11, ky_11, xc_11, xb_11⟩ | with_reducible exact ⟨ks_12, ko_12, kx_12, ky_12, xc_12, xb_12⟩ | with_reducible exact ⟨ks_13, ko_13, kx_13, ky_13, xc_13, xb_13⟩) (first
          | (go_simp; go_at_call 26; refine (h3.out At ct _ (RowIn.drew rv_8).row hct (RowIn.drew rt_8).row).mono ?_
             rintro e w9 ⟨rfl, b9⟩
             have s9 : w8.heap.size ≤ w9.heap.size := b9.size
             have zs_9 := ((Blk.drew zs_8)).after b9; have ks_9 := zs_9.cell; have fs_9 := zs_9.frozen; have ls_9 := zs_9.lt
             have zo_9 := ((Blk.drew zo_8)).after b9; have ko_9 := zo_9.cell; have fo_9 := zo_9.frozen; have lo_9 := zo_9.lt
             have zx_9 := ((Blk.drew zx_8)).after b9; have kx_9 := zx_9.cell; have fx_9 := zx_9.frozen; have lx_9 := zx_9.lt
             have zy_9 := ((Blk.drew zy_8)).after b9; have ky_9 := zy_9.cell; have fy_9 := zy_9.frozen; have ly_9 := zy_9.lt
             have rs_9 := ((RowIn.drew rs_8)).belowS b9
             have rb_9 := ((RowIn.drew rb_8)).belowS b9
             have rt_9 := ((RowIn.drew rt_8)).belowS b9
             have rc_9 := ((RowIn.drew rc_8)).belowS b9
             have rv_9 := ((RowIn.drew rv_8)).belowS b9
             have rx_9 := ((RowIn.drew rx_8)).belowS b9
             have rlx_9 := ((RowIn.drew rlx_8)).belowS b9
             have ry_9 := ((RowIn.drew ry_8)).belowS b9
             have rly_9 := ((RowIn.drew rly_8)).belowS b9
             have bb_9 := Below.after (Below.drew bb_8) b9 bb_8.size
             have xc_9 := run_str (P := Tryd.prog) (src := 22) (dst := 9) Tryd.underlying22 Tryd.underlying5 Tryd.underlying9 co rc_9.row
             have xb_9 := run_str (P := Tryd.prog) (src := 22) (dst := 9) Tryd.underlying22 Tryd.underlying5 Tryd.underlying9 cb rb_9.row)
          | (go_simp; go_at_call 27; refine (h4.out As cs _ rs_9.row hcs).mono ?_
             rintro e w10 ⟨rfl, b10⟩
             have s10 : w9.heap.size ≤ w10.heap.size := b10.size
             have zs_10 := (zs_9).after b10; have ks_10 := zs_10.cell; have fs_10 := zs_10.frozen; have ls_10 := zs_10.lt
             have zo_10 := (zo_9).after b10; have ko_10 := zo_10.cell; have fo_10 := zo_10.frozen; have lo_10 := zo_10.lt
             have zx_10 := (zx_9).after b10; have kx_10 := zx_10.cell; have fx_10 := zx_10.frozen; have lx_10 := zx_10.lt
             have zy_10 := (zy_9).after b10; have ky_10 := zy_10.cell; have fy_10 := zy_10.frozen; have ly_10 := zy_10.lt
             have rs_10 := (rs_9).belowS b10
             have rb_10 := (rb_9).belowS b10
             have rt_10 := (rt_9).belowS b10
             have rc_10 := (rc_9).belowS b10
             have rv_10 := (rv_9).belowS b10
             have rx_10 := (rx_9).belowS b10
             have rlx_10 := (rlx_9).belowS b10
             have ry_10 := (ry_9).belowS b10
             have rly_10 := (rly_9).belowS b10
             have bb_10 := Below.after bb_9 b10 bb_9.size
             have xc_10 := run_str (P := Tryd.prog) (src := 22) (dst := 9) Tryd.underlying22 Tryd.underlying5 Tryd.underlying9 co rc_10.row
             have xb_10 := run_str (P := Tryd.prog) (src := 22) (dst := 9) Tryd.underlying22 Tryd.underlying5 Tryd.underlying9 cb rb_10.row)
          | (go_simp; go_at_call_of 28 Ax; refine (rrsame_eq n2 u0 u1 v0 v1 _ _ mx cx my cy Ax Ay (pack xx) (pack xy) _ rx_10.row ry_10.row (pack_u8 _) HE1.out HE2.out).mono ?_
             rintro e w11 ⟨rfl, b11⟩
             have s11 : w10.heap.size ≤ w11.heap.size := b11.size
             have zs_11 := (zs_10).after b11; have ks_11 := zs_11.cell; have fs_11 := zs_11.frozen; have ls_11 := zs_11.lt
             have zo_11 := (zo_10).after b11; have ko_11 := zo_11.cell; have fo_11 := zo_11.frozen; have lo_11 := zo_11.lt
             have zx_11 := (zx_10).after b11; have kx_11 := zx_11.cell; have fx_11 := zx_11.frozen; have lx_11 := zx_11.lt
             have zy_11 := (zy_10).after b11; have ky_11 := zy_11.cell; have fy_11 := zy_11.frozen; have ly_11 := zy_11.lt
             have rs_11 := (rs_10).belowS b11
             have rb_11 := (rb_10).belowS b11
             have rt_11 := (rt_10).belowS b11
             have rc_11 := (rc_10).belowS b11
             have rv_11 := (rv_10).belowS b11
             have rx_11 := (rx_10).belowS b11
             have rlx_11 := (rlx_10).belowS b11
             have ry_11 := (ry_10).belowS b11
             have rly_11 := (rly_10).belowS b11
             have bb_11 := Below.after bb_10 b11 bb_10.size
             have xc_11 := run_str (P := Tryd.prog) (src := 22) (dst := 9) Tryd.underlying22 Tryd.underlying5 Tryd.underlying9 co rc_11.row
             have xb_11 := run_str (P := Tryd.prog) (src := 22) (dst := 9) Tryd.underlying22 Tryd.underlying5 Tryd.underlying9 cb rb_11.row)
          | (go_simp; go_at_call 21; refine (r9same_eq Bx By kx dx ky dy zx zy _ rlx_11.row rly_11.row (by omega) HE3.out).mono ?_
             rintro e w12 ⟨rfl, b12⟩
             have s12 : w11.heap.size ≤ w12.heap.size := b12.size
             have zs_12 := (zs_11).after b12; have ks_12 := zs_12.cell; have fs_12 := zs_12.frozen; have ls_12 := zs_12.lt
             have zo_12 := (zo_11).after b12; have ko_12 := zo_12.cell; have fo_12 := zo_12.frozen; have lo_12 := zo_12.lt
             have zx_12 := (zx_11).after b12; have kx_12 := zx_12.cell; have fx_12 := zx_12.frozen; have lx_12 := zx_12.lt
             have zy_12 := (zy_11).after b12; have ky_12 := zy_12.cell; have fy_12 := zy_12.frozen; have ly_12 := zy_12.lt
             have rs_12 := (rs_11).belowS b12
             have rb_12 := (rb_11).belowS b12
             have rt_12 := (rt_11).belowS b12
             have rc_12 := (rc_11).belowS b12
             have rv_12 := (rv_11).belowS b12
             have rx_12 := (rx_11).belowS b12
             have rlx_12 := (rlx_11).belowS b12
             have ry_12 := (ry_11).belowS b12
             have rly_12 := (rly_11).belowS b12
             have bb_12 := Below.after bb_11 b12 bb_11.size
             have xc_12 := run_str (P := Tryd.prog) (src := 22) (dst := 9) Tryd.underlying22 Tryd.underlying5 Tryd.underlying9 co rc_12.row
             have xb_12 := run_str (P := Tryd.prog) (src := 22) (dst := 9) Tryd.underlying22 Tryd.underlying5 Tryd.underlying9 cb rb_12.row)
          | (go_simp; go_at_call_of 28 At; refine (rrsame_eq L p0 p1 q0 q1 Ns Ns ns ct ns cs At As xss xss _ rv_12.row rs_12.row hxs rfl rfl).mono ?_
             rintro e w13 ⟨rfl, b13⟩
             have s13 : w12.heap.size ≤ w13.heap.size := b13.size
             have zs_13 := (zs_12).after b13; have ks_13 := zs_13.cell; have fs_13 := zs_13.frozen; have ls_13 := zs_13.lt
             have zo_13 := (zo_12).after b13; have ko_13 := zo_13.cell; have fo_13 := zo_13.frozen; have lo_13 := zo_13.lt
             have zx_13 := (zx_12).after b13; have kx_13 := zx_13.cell; have fx_13 := zx_13.frozen; have lx_13 := zx_13.lt
             have zy_13 := (zy_12).after b13; have ky_13 := zy_13.cell; have fy_13 := zy_13.frozen; have ly_13 := zy_13.lt
             have rs_13 := (rs_12).belowS b13
             have rb_13 := (rb_12).belowS b13
             have rt_13 := (rt_12).belowS b13
             have rc_13 := (rc_12).belowS b13
             have rv_13 := (rv_12).belowS b13
             have rx_13 := (rx_12).belowS b13
             have rlx_13 := (rlx_12).belowS b13
             have ry_13 := (ry_12).belowS b13
             have rly_13 := (rly_12).belowS b13
             have bb_13 := Below.after bb_12 b13 bb_12.size
             have xc_13 := run_str (P := Tryd.prog) (src := 22) (dst := 9) Tryd.underlying22 Tryd.underlying5 Tryd.underlying9 co rc_13.row
             have xb_13 := run_str (P := Tryd.prog) (src := 22) (dst := 9) Tryd.underlying22 Tryd.underlying5 Tryd.underlying9 cb rb_13.row))
        all_goals
          go_wp2
          go_ret
          refine ⟨rfl, ?_⟩
          repeat' (first | (with_reducible first | assumption | exact Below.refl _ _ | refine Blk.drewN ?_ _ | refine RowIn.drewN ?_ _ | refine below_drewN ?_ _ | refine Blk.drew ?_ | refine RowIn.drew ?_ | refine Below.drew ?_) | (with_reducible refine Blk.new' ?_ ?_ <;> first | (with_reducible rfl) | (simp; done)) | (with_reducible first | refine Blk.alloc ?_ _ | refine RowIn.alloc ?_ _ | refine Below.alloc ?_ ?_ _ | apply Blk.set' | apply Blk.far' | refine RowIn.far' ?_ ?_ _ | refine Below.far' ?_ ?_ _) | (exact (Eq.refl _ : (_ : List Value) = _)) | omega | go_size)


end Go.Proofs.YtppilidcjlnmoaaDoor
