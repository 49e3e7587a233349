/-
  Contracts of the reference of chapter 2: Join, Cut, Of, Align.
-/
import Derived.Test.YtlkgdkefimlmdaaRefD
namespace Go.Proofs.Ytlkgdkefimlmdaa
open Go.RowKit Cad Cad.Bit
set_option linter.unusedVariables false
set_option linter.unusedSimpArgs false


set_option maxRecDepth 100000 in
set_option maxHeartbeats 1000000 in
theorem rjoin_ret (A B : Option Addr) (m c n d : Nat) (fs bs : List Bool) (w : World) (ha : Row .u8 w A m (pack fs)) (hb : Row .u8 w B n (pack bs)) (hc : m ≤ c ∧ c ≤ 9223372036854775807) (hd : n ≤ d ∧ d ≤ 9223372036854775807) (hal : fs.length ≤ 330000) (hbl : bs.length ≤ 330000) :
    Calls Try.prog 17 #[.agg #[.slice A m c, .int .i64 ((fs.length : Nat) : Int)], .agg #[.slice B n d, .int .i64 ((bs.length : Nat) : Int)]] w (RetB w (joinR fs bs).1 (joinR fs bs).2) := by
  have hm : m ≤ 41250 := by have := ha.len; rw [pack_len] at this; unfold bytesFor at this; omega
  have hrai := ha.rowIn
  have hrbi := hb.rowIn
  by_cases h1 : 330000 < fs.length + bs.length
  · have HR : Hid (joinR fs bs = ([], 18)) := by unfold joinR; rw [if_pos h1]; rfl
    go_enter Try.func17, Try.ntmps17
    go_wp2_with fail
    refine (rcheck_ok A m c fs _ (by exact (((ha.alloc _).alloc _).alloc _)) (by omega) hal).mono ?_
    rintro e w1 ⟨rfl, b1⟩
    have s1 := b1.size
    try simp only [World.size_alloc, World.size_setCell, World.size_drew, size_drewN] at s1
    obtain ⟨za_1, zb_1, zr_1, ra_1, rb_1, bb_1⟩ : Blk w1 (w.heap.size) 24 [.slice A m c, .int .i64 ((fs.length : Nat) : Int)] ∧ Blk w1 (w.heap.size + 1) 24 [.slice B n d, .int .i64 ((bs.length : Nat) : Int)] ∧ Blk w1 (w.heap.size + 1 + 1) 24 [.slice none 0 0, .int .i64 0] ∧ RowIn .u8 w1 (0) (w.heap.size) A m (pack fs) ∧ RowIn .u8 w1 (0) (w.heap.size) B n (pack bs) ∧ Below w.heap.size w w1 := by
      refine ⟨?_, ?_, ?_, ?_, ?_, ?_⟩
      all_goals repeat' (first | (with_reducible assumption) | (with_reducible exact Below.refl _ _) | (with_reducible refine Blk.after ?_ b1) | (with_reducible refine RowIn.belowS ?_ b1) | (with_reducible refine Below.after ?_ b1 ?_) | (with_reducible refine Blk.drewN ?_ _) | (with_reducible refine RowIn.drewN ?_ _) | (with_reducible refine below_drewN ?_ _) | (with_reducible refine Blk.drew ?_) | (with_reducible refine RowIn.drew ?_) | (with_reducible refine Below.drew ?_) | (with_reducible refine Blk.new' ?_ ?_ <;> first | (with_reducible rfl) | (simp; done)) | (with_reducible refine Blk.alloc ?_ _) | (with_reducible refine RowIn.alloc ?_ _) | (with_reducible refine Below.alloc ?_ ?_ _) | (with_reducible apply Blk.set') | (with_reducible refine Blk.far' ?_ ?_ _) | (with_reducible refine RowIn.far' ?_ ?_ _) | (with_reducible refine Below.far' ?_ ?_ _) | rfl | omega | go_size)
    clear b1
    have ka_1 := za_1.cell; have fa_1 := za_1.frozen; have la_1 := za_1.lt
    have kb_1 := zb_1.cell; have fb_1 := zb_1.frozen; have lb_1 := zb_1.lt
    have kr_1 := zr_1.cell; have fr_1 := zr_1.frozen; have lr_1 := zr_1.lt
    go_wp2_with fail
    refine (rcheck_ok B n d bs _ rb_1.row (by omega) hbl).mono ?_
    rintro e w2 ⟨rfl, b2⟩
    have s2 := b2.size
    try simp only [World.size_alloc, World.size_setCell, World.size_drew, size_drewN] at s2
    obtain ⟨za_2, zb_2, zr_2, ra_2, rb_2, bb_2⟩ : Blk w2 (w.heap.size) 24 [.slice A m c, .int .i64 ((fs.length : Nat) : Int)] ∧ Blk w2 (w.heap.size + 1) 24 [.slice B n d, .int .i64 ((bs.length : Nat) : Int)] ∧ Blk w2 (w.heap.size + 1 + 1) 24 [.slice none 0 0, .int .i64 0] ∧ RowIn .u8 w2 (0) (w.heap.size) A m (pack fs) ∧ RowIn .u8 w2 (0) (w.heap.size) B n (pack bs) ∧ Below w.heap.size w w2 := by
      refine ⟨?_, ?_, ?_, ?_, ?_, ?_⟩
      all_goals repeat' (first | (with_reducible assumption) | (with_reducible exact Below.refl _ _) | (with_reducible refine Blk.after ?_ b2) | (with_reducible refine RowIn.belowS ?_ b2) | (with_reducible refine Below.after ?_ b2 ?_) | (with_reducible refine Blk.drewN ?_ _) | (with_reducible refine RowIn.drewN ?_ _) | (with_reducible refine below_drewN ?_ _) | (with_reducible refine Blk.drew ?_) | (with_reducible refine RowIn.drew ?_) | (with_reducible refine Below.drew ?_) | (with_reducible refine Blk.new' ?_ ?_ <;> first | (with_reducible rfl) | (simp; done)) | (with_reducible refine Blk.alloc ?_ _) | (with_reducible refine RowIn.alloc ?_ _) | (with_reducible refine Below.alloc ?_ ?_ _) | (with_reducible apply Blk.set') | (with_reducible refine Blk.far' ?_ ?_ _) | (with_reducible refine RowIn.far' ?_ ?_ _) | (with_reducible refine Below.far' ?_ ?_ _) | rfl | omega | go_size)
    clear za_1 zb_1 zr_1 ra_1 rb_1 bb_1 ka_1 fa_1 la_1 kb_1 fb_1 lb_1 kr_1 fr_1 lr_1 b2
    have ka_2 := za_2.cell; have fa_2 := za_2.frozen; have la_2 := za_2.lt
    have kb_2 := zb_2.cell; have fb_2 := zb_2.frozen; have lb_2 := zb_2.lt
    have kr_2 := zr_2.cell; have fr_2 := zr_2.frozen; have lr_2 := zr_2.lt
    go_wp2
    refine bodyPost_ret (v := .tuple #[.agg #[.slice none 0 0, .int .i64 0], .int .i64 18]) (by simp [results, Try.results17, go_sem, kr_2]) rfl ?_
    rw [HR.out]
    refine RetB.of rfl (BitsIn.zero _ _ _) ?_
    repeat' (first | (with_reducible assumption) | (with_reducible exact Below.refl _ _) | (with_reducible refine Blk.drewN ?_ _) | (with_reducible refine RowIn.drewN ?_ _) | (with_reducible refine below_drewN ?_ _) | (with_reducible refine Blk.drew ?_) | (with_reducible refine RowIn.drew ?_) | (with_reducible refine Below.drew ?_) | (with_reducible refine Blk.new' ?_ ?_ <;> first | (with_reducible rfl) | (simp; done)) | (with_reducible refine Blk.alloc ?_ _) | (with_reducible refine RowIn.alloc ?_ _) | (with_reducible refine Below.alloc ?_ ?_ _) | (with_reducible apply Blk.set') | (with_reducible refine Blk.far' ?_ ?_ _) | (with_reducible refine RowIn.far' ?_ ?_ _) | (with_reducible refine Below.far' ?_ ?_ _) | rfl | omega | go_size)
  have HR : Hid (joinR fs bs = (fs ++ bs, 0)) := by unfold joinR; rw [if_neg h1]; rfl
  have t1 : decide (330000 < (fs.length : Int) + (bs.length : Int)) = false := decide_eq_false (by omega)
  go_enter Try.func17, Try.ntmps17
  go_wp2_with fail
  refine (rcheck_ok A m c fs _ (by exact (((ha.alloc _).alloc _).alloc _)) (by omega) hal).mono ?_
  rintro e w1 ⟨rfl, b1⟩
  have s1 := b1.size
  try simp only [World.size_alloc, World.size_setCell, World.size_drew, size_drewN] at s1
  obtain ⟨za_1, zb_1, zr_1, ra_1, rb_1, bb_1⟩ : Blk w1 (w.heap.size) 24 [.slice A m c, .int .i64 ((fs.length : Nat) : Int)] ∧ Blk w1 (w.heap.size + 1) 24 [.slice B n d, .int .i64 ((bs.length : Nat) : Int)] ∧ Blk w1 (w.heap.size + 1 + 1) 24 [.slice none 0 0, .int .i64 0] ∧ RowIn .u8 w1 (0) (w.heap.size) A m (pack fs) ∧ RowIn .u8 w1 (0) (w.heap.size) B n (pack bs) ∧ Below w.heap.size w w1 := by
    refine ⟨?_, ?_, ?_, ?_, ?_, ?_⟩
    all_goals repeat' (first | (with_reducible assumption) | (with_reducible exact Below.refl _ _) | (with_reducible refine Blk.after ?_ b1) | (with_reducible refine RowIn.belowS ?_ b1) | (with_reducible refine Below.after ?_ b1 ?_) | (with_reducible refine Blk.drewN ?_ _) | (with_reducible refine RowIn.drewN ?_ _) | (with_reducible refine below_drewN ?_ _) | (with_reducible refine Blk.drew ?_) | (with_reducible refine RowIn.drew ?_) | (with_reducible refine Below.drew ?_) | (with_reducible refine Blk.new' ?_ ?_ <;> first | (with_reducible rfl) | (simp; done)) | (with_reducible refine Blk.alloc ?_ _) | (with_reducible refine RowIn.alloc ?_ _) | (with_reducible refine Below.alloc ?_ ?_ _) | (with_reducible apply Blk.set') | (with_reducible refine Blk.far' ?_ ?_ _) | (with_reducible refine RowIn.far' ?_ ?_ _) | (with_reducible refine Below.far' ?_ ?_ _) | rfl | omega | go_size)
  clear b1
  have ka_1 := za_1.cell; have fa_1 := za_1.frozen; have la_1 := za_1.lt
  have kb_1 := zb_1.cell; have fb_1 := zb_1.frozen; have lb_1 := zb_1.lt
  have kr_1 := zr_1.cell; have fr_1 := zr_1.frozen; have lr_1 := zr_1.lt
  go_wp2_with fail
  refine (rcheck_ok B n d bs _ rb_1.row (by omega) hbl).mono ?_
  rintro e w2 ⟨rfl, b2⟩
  have s2 := b2.size
  try simp only [World.size_alloc, World.size_setCell, World.size_drew, size_drewN] at s2
  obtain ⟨za_2, zb_2, zr_2, ra_2, rb_2, bb_2⟩ : Blk w2 (w.heap.size) 24 [.slice A m c, .int .i64 ((fs.length : Nat) : Int)] ∧ Blk w2 (w.heap.size + 1) 24 [.slice B n d, .int .i64 ((bs.length : Nat) : Int)] ∧ Blk w2 (w.heap.size + 1 + 1) 24 [.slice none 0 0, .int .i64 0] ∧ RowIn .u8 w2 (0) (w.heap.size) A m (pack fs) ∧ RowIn .u8 w2 (0) (w.heap.size) B n (pack bs) ∧ Below w.heap.size w w2 := by
    refine ⟨?_, ?_, ?_, ?_, ?_, ?_⟩
    all_goals repeat' (first | (with_reducible assumption) | (with_reducible exact Below.refl _ _) | (with_reducible refine Blk.after ?_ b2) | (with_reducible refine RowIn.belowS ?_ b2) | (with_reducible refine Below.after ?_ b2 ?_) | (with_reducible refine Blk.drewN ?_ _) | (with_reducible refine RowIn.drewN ?_ _) | (with_reducible refine below_drewN ?_ _) | (with_reducible refine Blk.drew ?_) | (with_reducible refine RowIn.drew ?_) | (with_reducible refine Below.drew ?_) | (with_reducible refine Blk.new' ?_ ?_ <;> first | (with_reducible rfl) | (simp; done)) | (with_reducible refine Blk.alloc ?_ _) | (with_reducible refine RowIn.alloc ?_ _) | (with_reducible refine Below.alloc ?_ ?_ _) | (with_reducible apply Blk.set') | (with_reducible refine Blk.far' ?_ ?_ _) | (with_reducible refine RowIn.far' ?_ ?_ _) | (with_reducible refine Below.far' ?_ ?_ _) | rfl | omega | go_size)
  clear za_1 zb_1 zr_1 ra_1 rb_1 bb_1 ka_1 fa_1 la_1 kb_1 fb_1 lb_1 kr_1 fr_1 lr_1 b2
  have ka_2 := za_2.cell; have fa_2 := za_2.frozen; have la_2 := za_2.lt
  have kb_2 := zb_2.cell; have fb_2 := zb_2.frozen; have lb_2 := zb_2.lt
  have kr_2 := zr_2.cell; have fr_2 := zr_2.frozen; have lr_2 := zr_2.lt
  go_wp2_with fail
  refine (rtwin_any A m c _ (pack fs) _ ra_2.row (by omega)).mono ?_
  rintro e w3 ⟨A3, d3, rfl, own3, b3⟩
  have s3 := b3.size
  try simp only [World.size_alloc, World.size_setCell, World.size_drew, size_drewN] at s3
  obtain ⟨za_3, zb_3, zr_3, ra_3, rb_3, bb_3⟩ : Blk w3 (w.heap.size) 24 [.slice A m c, .int .i64 ((fs.length : Nat) : Int)] ∧ Blk w3 (w.heap.size + 1) 24 [.slice B n d, .int .i64 ((bs.length : Nat) : Int)] ∧ Blk w3 (w.heap.size + 1 + 1) 24 [.slice none 0 0, .int .i64 0] ∧ RowIn .u8 w3 (0) (w.heap.size) A m (pack fs) ∧ RowIn .u8 w3 (0) (w.heap.size) B n (pack bs) ∧ Below w.heap.size w w3 := by
    refine ⟨?_, ?_, ?_, ?_, ?_, ?_⟩
    all_goals repeat' (first | (with_reducible assumption) | (with_reducible exact Below.refl _ _) | (with_reducible refine Blk.after ?_ b3) | (with_reducible refine RowIn.belowS ?_ b3) | (with_reducible refine Below.after ?_ b3 ?_) | (with_reducible refine Blk.drewN ?_ _) | (with_reducible refine RowIn.drewN ?_ _) | (with_reducible refine below_drewN ?_ _) | (with_reducible refine Blk.drew ?_) | (with_reducible refine RowIn.drew ?_) | (with_reducible refine Below.drew ?_) | (with_reducible refine Blk.new' ?_ ?_ <;> first | (with_reducible rfl) | (simp; done)) | (with_reducible refine Blk.alloc ?_ _) | (with_reducible refine RowIn.alloc ?_ _) | (with_reducible refine Below.alloc ?_ ?_ _) | (with_reducible apply Blk.set') | (with_reducible refine Blk.far' ?_ ?_ _) | (with_reducible refine RowIn.far' ?_ ?_ _) | (with_reducible refine Below.far' ?_ ?_ _) | rfl | omega | go_size)
  have ka_3 := za_3.cell; have fa_3 := za_3.frozen; have la_3 := za_3.lt
  have kb_3 := zb_3.cell; have fb_3 := zb_3.frozen; have lb_3 := zb_3.lt
  have kr_3 := zr_3.cell; have fr_3 := zr_3.frozen; have lr_3 := zr_3.lt
  clear ka_2 fa_2 kb_2 fb_2 kr_2 fr_2
  go_wp2_with fail
  go_loopg [7] bs.length (fun k v wr => ∃ (j : Nat) (B' : Option Addr) (m' d' : Nat) (os : List Bool), j + k = bs.length ∧ v = .int .i64 (j : Nat) ∧ Hid (os = fs ++ bs.take j) ∧ Blk wr w3.heap.size 24 [.slice B' m' d', .int .i64 (os.length : Nat)] ∧ Own wr w2.heap.size 5 .u8 B' m' d' (pack os) ∧ Below w2.heap.size w2 wr)
  case atStart =>
    refine ⟨0, A3, m, d3, fs, by omega, rfl, Lib.hid (by simp), ?_, own3.alloc _, ?_⟩
    all_goals repeat' (first | (with_reducible assumption) | (with_reducible exact Below.refl _ _) | (with_reducible refine Blk.drewN ?_ _) | (with_reducible refine RowIn.drewN ?_ _) | (with_reducible refine below_drewN ?_ _) | (with_reducible refine Blk.drew ?_) | (with_reducible refine RowIn.drew ?_) | (with_reducible refine Below.drew ?_) | (with_reducible refine Blk.new' ?_ ?_ <;> first | (with_reducible rfl) | (simp; done)) | (with_reducible refine Blk.alloc ?_ _) | (with_reducible refine RowIn.alloc ?_ _) | (with_reducible refine Below.alloc ?_ ?_ _) | (with_reducible apply Blk.set') | (with_reducible refine Blk.far' ?_ ?_ _) | (with_reducible refine RowIn.far' ?_ ?_ _) | (with_reducible refine Below.far' ?_ ?_ _) | rfl | omega | go_size)
  case round =>
    obtain ⟨j, B', m', d', os, hk, rfl, HO, zo, own, br⟩ := hrel
    have sr := br.size
    have hsz := zo.lt
    have hos : os.length ≤ fs.length + j := by rw [HO.out, List.length_append, List.length_take]; omega
    have zb : Blk wr (w.heap.size + 1) 24 [.slice B n d, .int .i64 ((bs.length : Nat) : Int)] := zb_2.after br
    have zr : Blk wr (w.heap.size + 1 + 1) 24 [.slice none 0 0, .int .i64 0] := zr_2.after br
    have rb : Row .u8 wr B n (pack bs) := (rb_2.belowS br).row
    have bb : Below w.heap.size w wr := Below.after bb_2 br bb_2.size
    have hrlt := zr.lt; have lb := zb.lt
    clear za_3 zb_3 zr_3 ra_3 rb_3 bb_3 ka_3 fa_3 kb_3 fb_3 kr_3 fr_3 own3 b3 la_3 lb_3 lr_3
    have kb := zb.cell; have fb := zb.frozen; have kr := zr.cell; have fr := zr.frozen; have ko := zo.cell; have fo := zo.frozen
    by_cases hlt : j < bs.length
    · go_wp2_with fail
      go_region_law (first
        | (go_simp; go_at_call 27; refine (rat_bit B n d _ bs j _ (by exact rb) (by omega) (by omega) hbl (by omega)).mono ?_; rintro e w4 ⟨v, rfl, HV, hv, b4⟩
           have b4' : Below wr.heap.size wr w4 := by exact ⟨b4.os, b4.tape, b4.output, b4.size, b4.block⟩
           have zb4 := zb.after b4'
           have zo4 := zo.after b4'
           have own4 := own.below b4' (Nat.le_refl _)
           have sb4 := b4'.size
           have kb4 := zb4.cell
           have ko4 := zo4.cell
           have fo4 := zo4.frozen)
        | (go_simp; go_at_call 34; refine (radd_any w2.heap.size B' m' d' os v (bitAt bs (j : Int).toNat) _ HV.out (by omega) (by omega) (by exact own4)).mono ?_; rintro e w5 ⟨B5, m5, d5, os5, rfl, own5, HO5, fr5, hB5⟩
           have hown := own4.block
           have hne4 : blockOf B' ≠ some w3.heap.size := own4.ne_blk zo4 (by decide)
           have zo5 := zo4.frm fr5 (fun h => hne4 h)
           have ko5 := zo5.cell
           have fo5 := zo5.frozen
           have lo5 := zo5.lt
           have br5 : Below w2.heap.size w2 w5 := (Below.after br b4' br.size).trans (fr5.below (by omega) (fun k hk h => by have := hown k h; omega))))
      all_goals
        have hne : blockOf B5 ≠ some w3.heap.size := own5.ne_blk zo5 (by decide)
        have own6 := (own5.far' (i := 0) hne (.slice B5 m5 d5)).far' (i := 1) hne (.int .i64 ((os5.length : Nat) : Int))
        have HO6 : Hid (os5 = fs ++ bs.take (j + 1)) := by
          rw [HO5.out, HO.out, Int.toNat_natCast, List.append_assoc]
          have := take_bit (bs := bs) (i := 0) (j := j) (by omega)
          rw [List.drop_zero, Nat.zero_add] at this
          rw [this]; exact Lib.hid rfl
        clear HO5 HV
        go_wp2
        go_roundg (bs.length - (j + 1))
        case measure => omega
        case rel =>
          refine ⟨j + 1, B5, m5, d5, os5, by omega, by go_num, HO6, ?_, own6, ?_⟩
          all_goals repeat' (first | (with_reducible assumption) | (with_reducible exact Below.refl _ _) | (with_reducible refine Blk.drewN ?_ _) | (with_reducible refine RowIn.drewN ?_ _) | (with_reducible refine below_drewN ?_ _) | (with_reducible refine Blk.drew ?_) | (with_reducible refine RowIn.drew ?_) | (with_reducible refine Below.drew ?_) | (with_reducible refine Blk.new' ?_ ?_ <;> first | (with_reducible rfl) | (simp; done)) | (with_reducible refine Blk.alloc ?_ _) | (with_reducible refine RowIn.alloc ?_ _) | (with_reducible refine Below.alloc ?_ ?_ _) | (with_reducible apply Blk.set') | (with_reducible refine Blk.far' ?_ ?_ _) | (with_reducible refine RowIn.far' ?_ ?_ _) | (with_reducible refine Below.far' ?_ ?_ _) | rfl | omega | go_size)
    · have hj : j = bs.length := by omega
      have HO2 : Hid (os = fs ++ bs) := by rw [HO.out, hj, List.take_length]; exact Lib.hid rfl
      have rw1 := own.rowIn
      clear hj HO
      go_wp2
      refine bodyPost_ret (v := .tuple #[.agg #[.slice B' m' d', .int .i64 ((os.length : Nat) : Int)], .int .i64 0]) (by simp [results, Try.results17, go_sem, kr]) rfl ?_
      rw [HR.out]
      refine RetB.of (x := .agg #[.slice B' m' d', .int .i64 ((os.length : Nat) : Int)]) rfl ⟨B', m', d', by rw [← HO2.out], own.rowC.2, ?_⟩ ?_
      · rw [← HO2.out]
        refine RowIn.mono (lo := w2.heap.size) (hi := wr.heap.size) ?_ (by omega) (by go_size)
        repeat' (first | (with_reducible assumption) | (with_reducible exact Below.refl _ _) | (with_reducible refine Blk.drewN ?_ _) | (with_reducible refine RowIn.drewN ?_ _) | (with_reducible refine below_drewN ?_ _) | (with_reducible refine Blk.drew ?_) | (with_reducible refine RowIn.drew ?_) | (with_reducible refine Below.drew ?_) | (with_reducible refine Blk.new' ?_ ?_ <;> first | (with_reducible rfl) | (simp; done)) | (with_reducible refine Blk.alloc ?_ _) | (with_reducible refine RowIn.alloc ?_ _) | (with_reducible refine Below.alloc ?_ ?_ _) | (with_reducible apply Blk.set') | (with_reducible refine Blk.far' ?_ ?_ _) | (with_reducible refine RowIn.far' ?_ ?_ _) | (with_reducible refine Below.far' ?_ ?_ _) | rfl | omega | go_size)
      · repeat' (first | (with_reducible assumption) | (with_reducible exact Below.refl _ _) | (with_reducible refine Blk.drewN ?_ _) | (with_reducible refine RowIn.drewN ?_ _) | (with_reducible refine below_drewN ?_ _) | (with_reducible refine Blk.drew ?_) | (with_reducible refine RowIn.drew ?_) | (with_reducible refine Below.drew ?_) | (with_reducible refine Blk.new' ?_ ?_ <;> first | (with_reducible rfl) | (simp; done)) | (with_reducible refine Blk.alloc ?_ _) | (with_reducible refine RowIn.alloc ?_ _) | (with_reducible refine Below.alloc ?_ ?_ _) | (with_reducible apply Blk.set') | (with_reducible refine Blk.far' ?_ ?_ _) | (with_reducible refine RowIn.far' ?_ ?_ _) | (with_reducible refine Below.far' ?_ ?_ _) | rfl | omega | go_size)


set_option maxHeartbeats 400000 in
theorem rjoin_bad (A B : Option Addr) (m c n d : Nat) (N M : Int) (xs ys : List Int) (w : World) (ha : Row .u8 w A m xs) (hb : Row .u8 w B n ys) (hx : Within 0 255 xs) (hy : Within 0 255 ys) (hc : m ≤ c ∧ c ≤ 9223372036854775807) (hd : n ≤ d ∧ d ≤ 9223372036854775807) (hv : ¬ (Valid xs N ∧ Valid ys M)) :
    Calls Try.prog 17 #[.agg #[.slice A m c, .int .i64 N], .agg #[.slice B n d, .int .i64 M]] w (RetB w [] 8) := by
  have hrai := ha.rowIn
  have hrbi := hb.rowIn
  by_cases h1 : Valid xs N
  · have h2 : ¬ Valid ys M := fun h => hv ⟨h1, h⟩
    have chk := fun W hW => (rcheck_any A m c N xs W hW hx (by omega)).mono (R' := fun e w' => e = .returned (.int .i64 0) ∧ Below W.heap.size W w') fun e w' h => ⟨by rw [h.1]; unfold chkB; rw [if_pos h1], h.2⟩
    have CHK := Lib.hid chk; clear chk h1 hv
    go_enter Try.func17, Try.ntmps17
    go_wp2_with fail
    refine (CHK.out _ (by exact (((ha.alloc _).alloc _).alloc _))).mono ?_
    rintro e w1 ⟨rfl, b1⟩
    have s1 := b1.size
    try simp only [World.size_alloc, World.size_setCell, World.size_drew, size_drewN] at s1
    obtain ⟨za_1, zb_1, zr_1, rb_1, bb_1⟩ : Blk w1 (w.heap.size) 24 [.slice A m c, .int .i64 N] ∧ Blk w1 (w.heap.size + 1) 24 [.slice B n d, .int .i64 M] ∧ Blk w1 (w.heap.size + 1 + 1) 24 [.slice none 0 0, .int .i64 0] ∧ RowIn .u8 w1 (0) (w.heap.size) B n ys ∧ Below w.heap.size w w1 := by
      refine ⟨?_, ?_, ?_, ?_, ?_⟩
      all_goals repeat' (first | (with_reducible assumption) | (with_reducible exact Below.refl _ _) | (with_reducible refine Blk.after ?_ b1) | (with_reducible refine RowIn.belowS ?_ b1) | (with_reducible refine Below.after ?_ b1 ?_) | (with_reducible refine Blk.drewN ?_ _) | (with_reducible refine RowIn.drewN ?_ _) | (with_reducible refine below_drewN ?_ _) | (with_reducible refine Blk.drew ?_) | (with_reducible refine RowIn.drew ?_) | (with_reducible refine Below.drew ?_) | (with_reducible refine Blk.new' ?_ ?_ <;> first | (with_reducible rfl) | (simp; done)) | (with_reducible refine Blk.alloc ?_ _) | (with_reducible refine RowIn.alloc ?_ _) | (with_reducible refine Below.alloc ?_ ?_ _) | (with_reducible apply Blk.set') | (with_reducible refine Blk.far' ?_ ?_ _) | (with_reducible refine RowIn.far' ?_ ?_ _) | (with_reducible refine Below.far' ?_ ?_ _) | rfl | omega | go_size)
    clear b1
    have ka_1 := za_1.cell; have fa_1 := za_1.frozen; have la_1 := za_1.lt
    have kb_1 := zb_1.cell; have fb_1 := zb_1.frozen; have lb_1 := zb_1.lt
    have kr_1 := zr_1.cell; have fr_1 := zr_1.frozen; have lr_1 := zr_1.lt
    go_wp2_with fail
    refine (rcheck_bad B n d M ys _ rb_1.row hy (by omega) h2).mono ?_
    rintro e w2 ⟨rfl, b2⟩
    have s2 := b2.size
    try simp only [World.size_alloc, World.size_setCell, World.size_drew, size_drewN] at s2
    obtain ⟨za_2, zb_2, zr_2, rb_2, bb_2⟩ : Blk w2 (w.heap.size) 24 [.slice A m c, .int .i64 N] ∧ Blk w2 (w.heap.size + 1) 24 [.slice B n d, .int .i64 M] ∧ Blk w2 (w.heap.size + 1 + 1) 24 [.slice none 0 0, .int .i64 0] ∧ RowIn .u8 w2 (0) (w.heap.size) B n ys ∧ Below w.heap.size w w2 := by
      refine ⟨?_, ?_, ?_, ?_, ?_⟩
      all_goals repeat' (first | (with_reducible assumption) | (with_reducible exact Below.refl _ _) | (with_reducible refine Blk.after ?_ b2) | (with_reducible refine RowIn.belowS ?_ b2) | (with_reducible refine Below.after ?_ b2 ?_) | (with_reducible refine Blk.drewN ?_ _) | (with_reducible refine RowIn.drewN ?_ _) | (with_reducible refine below_drewN ?_ _) | (with_reducible refine Blk.drew ?_) | (with_reducible refine RowIn.drew ?_) | (with_reducible refine Below.drew ?_) | (with_reducible refine Blk.new' ?_ ?_ <;> first | (with_reducible rfl) | (simp; done)) | (with_reducible refine Blk.alloc ?_ _) | (with_reducible refine RowIn.alloc ?_ _) | (with_reducible refine Below.alloc ?_ ?_ _) | (with_reducible apply Blk.set') | (with_reducible refine Blk.far' ?_ ?_ _) | (with_reducible refine RowIn.far' ?_ ?_ _) | (with_reducible refine Below.far' ?_ ?_ _) | rfl | omega | go_size)
    clear za_1 zb_1 zr_1 rb_1 bb_1 ka_1 fa_1 la_1 kb_1 fb_1 lb_1 kr_1 fr_1 lr_1 b2
    have ka_2 := za_2.cell; have fa_2 := za_2.frozen; have la_2 := za_2.lt
    have kb_2 := zb_2.cell; have fb_2 := zb_2.frozen; have lb_2 := zb_2.lt
    have kr_2 := zr_2.cell; have fr_2 := zr_2.frozen; have lr_2 := zr_2.lt
    go_wp2
    refine bodyPost_ret (v := .tuple #[.agg #[.slice none 0 0, .int .i64 0], .int .i64 8]) (by simp [results, Try.results17, go_sem, kr_2]) rfl ?_
    refine RetB.of rfl (BitsIn.zero _ _ _) ?_
    repeat' (first | (with_reducible assumption) | (with_reducible exact Below.refl _ _) | (with_reducible refine Blk.drewN ?_ _) | (with_reducible refine RowIn.drewN ?_ _) | (with_reducible refine below_drewN ?_ _) | (with_reducible refine Blk.drew ?_) | (with_reducible refine RowIn.drew ?_) | (with_reducible refine Below.drew ?_) | (with_reducible refine Blk.new' ?_ ?_ <;> first | (with_reducible rfl) | (simp; done)) | (with_reducible refine Blk.alloc ?_ _) | (with_reducible refine RowIn.alloc ?_ _) | (with_reducible refine Below.alloc ?_ ?_ _) | (with_reducible apply Blk.set') | (with_reducible refine Blk.far' ?_ ?_ _) | (with_reducible refine RowIn.far' ?_ ?_ _) | (with_reducible refine Below.far' ?_ ?_ _) | rfl | omega | go_size)
  · go_enter Try.func17, Try.ntmps17
    go_wp2_with fail
    refine (rcheck_bad A m c N xs _ (by exact (((ha.alloc _).alloc _).alloc _)) hx (by omega) h1).mono ?_
    rintro e w1 ⟨rfl, b1⟩
    have s1 := b1.size
    try simp only [World.size_alloc, World.size_setCell, World.size_drew, size_drewN] at s1
    obtain ⟨za_1, zb_1, zr_1, rb_1, bb_1⟩ : Blk w1 (w.heap.size) 24 [.slice A m c, .int .i64 N] ∧ Blk w1 (w.heap.size + 1) 24 [.slice B n d, .int .i64 M] ∧ Blk w1 (w.heap.size + 1 + 1) 24 [.slice none 0 0, .int .i64 0] ∧ RowIn .u8 w1 (0) (w.heap.size) B n ys ∧ Below w.heap.size w w1 := by
      refine ⟨?_, ?_, ?_, ?_, ?_⟩
      all_goals repeat' (first | (with_reducible assumption) | (with_reducible exact Below.refl _ _) | (with_reducible refine Blk.after ?_ b1) | (with_reducible refine RowIn.belowS ?_ b1) | (with_reducible refine Below.after ?_ b1 ?_) | (with_reducible refine Blk.drewN ?_ _) | (with_reducible refine RowIn.drewN ?_ _) | (with_reducible refine below_drewN ?_ _) | (with_reducible refine Blk.drew ?_) | (with_reducible refine RowIn.drew ?_) | (with_reducible refine Below.drew ?_) | (with_reducible refine Blk.new' ?_ ?_ <;> first | (with_reducible rfl) | (simp; done)) | (with_reducible refine Blk.alloc ?_ _) | (with_reducible refine RowIn.alloc ?_ _) | (with_reducible refine Below.alloc ?_ ?_ _) | (with_reducible apply Blk.set') | (with_reducible refine Blk.far' ?_ ?_ _) | (with_reducible refine RowIn.far' ?_ ?_ _) | (with_reducible refine Below.far' ?_ ?_ _) | rfl | omega | go_size)
    clear b1
    have ka_1 := za_1.cell; have fa_1 := za_1.frozen; have la_1 := za_1.lt
    have kb_1 := zb_1.cell; have fb_1 := zb_1.frozen; have lb_1 := zb_1.lt
    have kr_1 := zr_1.cell; have fr_1 := zr_1.frozen; have lr_1 := zr_1.lt
    go_wp2
    refine bodyPost_ret (v := .tuple #[.agg #[.slice none 0 0, .int .i64 0], .int .i64 8]) (by simp [results, Try.results17, go_sem, kr_1]) rfl ?_
    refine RetB.of rfl (BitsIn.zero _ _ _) ?_
    repeat' (first | (with_reducible assumption) | (with_reducible exact Below.refl _ _) | (with_reducible refine Blk.drewN ?_ _) | (with_reducible refine RowIn.drewN ?_ _) | (with_reducible refine below_drewN ?_ _) | (with_reducible refine Blk.drew ?_) | (with_reducible refine RowIn.drew ?_) | (with_reducible refine Below.drew ?_) | (with_reducible refine Blk.new' ?_ ?_ <;> first | (with_reducible rfl) | (simp; done)) | (with_reducible refine Blk.alloc ?_ _) | (with_reducible refine RowIn.alloc ?_ _) | (with_reducible refine Below.alloc ?_ ?_ _) | (with_reducible apply Blk.set') | (with_reducible refine Blk.far' ?_ ?_ _) | (with_reducible refine RowIn.far' ?_ ?_ _) | (with_reducible refine Below.far' ?_ ?_ _) | rfl | omega | go_size)


set_option maxHeartbeats 1000000 in
theorem rcut_ret (A : Option Addr) (m c : Nat) (bs : List Bool) (p q : Int) (w : World) (ha : Row .u8 w A m (pack bs)) (hc : m ≤ c ∧ c ≤ 9223372036854775807) (hl : bs.length ≤ 330000) :
    Calls Try.prog 19 #[.agg #[.slice A m c, .int .i64 ((bs.length : Nat) : Int)], .int .i64 p, .int .i64 q] w (RetB w (cutR bs p q).1 (cutR bs p q).2) := by
  have hri := ha.rowIn
  by_cases h1 : p < 0
  · have HR : Hid (cutR bs p q = ([], 2)) := by unfold cutR; rw [if_pos (Or.inl h1)]; rfl
    go_enter Try.func19, Try.ntmps19
    go_wp2_with fail
    refine (rcheck_ok A m c bs _ (by exact ((ha.alloc _).alloc _)) (by omega) hl).mono ?_
    rintro e w1 ⟨rfl, b1⟩
    have s1 := b1.size
    try simp only [World.size_alloc, World.size_setCell, World.size_drew, size_drewN] at s1
    obtain ⟨zb_1, zr_1, rb_1, bb_1⟩ : Blk w1 (w.heap.size) 24 [.slice A m c, .int .i64 ((bs.length : Nat) : Int)] ∧ Blk w1 (w.heap.size + 1) 24 [.slice none 0 0, .int .i64 0] ∧ RowIn .u8 w1 (0) (w.heap.size) A m (pack bs) ∧ Below w.heap.size w w1 := by
      refine ⟨?_, ?_, ?_, ?_⟩
      all_goals repeat' (first | (with_reducible assumption) | (with_reducible exact Below.refl _ _) | (with_reducible refine Blk.after ?_ b1) | (with_reducible refine RowIn.belowS ?_ b1) | (with_reducible refine Below.after ?_ b1 ?_) | (with_reducible refine Blk.drewN ?_ _) | (with_reducible refine RowIn.drewN ?_ _) | (with_reducible refine below_drewN ?_ _) | (with_reducible refine Blk.drew ?_) | (with_reducible refine RowIn.drew ?_) | (with_reducible refine Below.drew ?_) | (with_reducible refine Blk.new' ?_ ?_ <;> first | (with_reducible rfl) | (simp; done)) | (with_reducible refine Blk.alloc ?_ _) | (with_reducible refine RowIn.alloc ?_ _) | (with_reducible refine Below.alloc ?_ ?_ _) | (with_reducible apply Blk.set') | (with_reducible refine Blk.far' ?_ ?_ _) | (with_reducible refine RowIn.far' ?_ ?_ _) | (with_reducible refine Below.far' ?_ ?_ _) | rfl | omega | go_size)
    clear b1
    have kb_1 := zb_1.cell; have fb_1 := zb_1.frozen; have lb_1 := zb_1.lt
    have kr_1 := zr_1.cell; have fr_1 := zr_1.frozen; have lr_1 := zr_1.lt
    go_wp2
    refine bodyPost_ret (v := .tuple #[.agg #[.slice none 0 0, .int .i64 0], .int .i64 2]) (by simp [results, Try.results19, go_sem, kr_1]) rfl ?_
    rw [HR.out]
    refine RetB.of rfl (BitsIn.zero _ _ _) ?_
    repeat' (first | (with_reducible assumption) | (with_reducible exact Below.refl _ _) | (with_reducible refine Blk.drewN ?_ _) | (with_reducible refine RowIn.drewN ?_ _) | (with_reducible refine below_drewN ?_ _) | (with_reducible refine Blk.drew ?_) | (with_reducible refine RowIn.drew ?_) | (with_reducible refine Below.drew ?_) | (with_reducible refine Blk.new' ?_ ?_ <;> first | (with_reducible rfl) | (simp; done)) | (with_reducible refine Blk.alloc ?_ _) | (with_reducible refine RowIn.alloc ?_ _) | (with_reducible refine Below.alloc ?_ ?_ _) | (with_reducible apply Blk.set') | (with_reducible refine Blk.far' ?_ ?_ _) | (with_reducible refine RowIn.far' ?_ ?_ _) | (with_reducible refine Below.far' ?_ ?_ _) | rfl | omega | go_size)
  by_cases h3 : (bs.length : Int) < q
  · have HR : Hid (cutR bs p q = ([], 2)) := by unfold cutR; rw [if_pos (Or.inr (Or.inr h3))]; rfl
    go_enter Try.func19, Try.ntmps19
    go_wp2_with fail
    refine (rcheck_ok A m c bs _ (by exact ((ha.alloc _).alloc _)) (by omega) hl).mono ?_
    rintro e w1 ⟨rfl, b1⟩
    have s1 := b1.size
    try simp only [World.size_alloc, World.size_setCell, World.size_drew, size_drewN] at s1
    obtain ⟨zb_1, zr_1, rb_1, bb_1⟩ : Blk w1 (w.heap.size) 24 [.slice A m c, .int .i64 ((bs.length : Nat) : Int)] ∧ Blk w1 (w.heap.size + 1) 24 [.slice none 0 0, .int .i64 0] ∧ RowIn .u8 w1 (0) (w.heap.size) A m (pack bs) ∧ Below w.heap.size w w1 := by
      refine ⟨?_, ?_, ?_, ?_⟩
      all_goals repeat' (first | (with_reducible assumption) | (with_reducible exact Below.refl _ _) | (with_reducible refine Blk.after ?_ b1) | (with_reducible refine RowIn.belowS ?_ b1) | (with_reducible refine Below.after ?_ b1 ?_) | (with_reducible refine Blk.drewN ?_ _) | (with_reducible refine RowIn.drewN ?_ _) | (with_reducible refine below_drewN ?_ _) | (with_reducible refine Blk.drew ?_) | (with_reducible refine RowIn.drew ?_) | (with_reducible refine Below.drew ?_) | (with_reducible refine Blk.new' ?_ ?_ <;> first | (with_reducible rfl) | (simp; done)) | (with_reducible refine Blk.alloc ?_ _) | (with_reducible refine RowIn.alloc ?_ _) | (with_reducible refine Below.alloc ?_ ?_ _) | (with_reducible apply Blk.set') | (with_reducible refine Blk.far' ?_ ?_ _) | (with_reducible refine RowIn.far' ?_ ?_ _) | (with_reducible refine Below.far' ?_ ?_ _) | rfl | omega | go_size)
    clear b1
    have kb_1 := zb_1.cell; have fb_1 := zb_1.frozen; have lb_1 := zb_1.lt
    have kr_1 := zr_1.cell; have fr_1 := zr_1.frozen; have lr_1 := zr_1.lt
    go_wp2
    refine bodyPost_ret (v := .tuple #[.agg #[.slice none 0 0, .int .i64 0], .int .i64 2]) (by simp [results, Try.results19, go_sem, kr_1]) rfl ?_
    rw [HR.out]
    refine RetB.of rfl (BitsIn.zero _ _ _) ?_
    repeat' (first | (with_reducible assumption) | (with_reducible exact Below.refl _ _) | (with_reducible refine Blk.drewN ?_ _) | (with_reducible refine RowIn.drewN ?_ _) | (with_reducible refine below_drewN ?_ _) | (with_reducible refine Blk.drew ?_) | (with_reducible refine RowIn.drew ?_) | (with_reducible refine Below.drew ?_) | (with_reducible refine Blk.new' ?_ ?_ <;> first | (with_reducible rfl) | (simp; done)) | (with_reducible refine Blk.alloc ?_ _) | (with_reducible refine RowIn.alloc ?_ _) | (with_reducible refine Below.alloc ?_ ?_ _) | (with_reducible apply Blk.set') | (with_reducible refine Blk.far' ?_ ?_ _) | (with_reducible refine RowIn.far' ?_ ?_ _) | (with_reducible refine Below.far' ?_ ?_ _) | rfl | omega | go_size)
  by_cases h2 : q < p
  · have HR : Hid (cutR bs p q = ([], 2)) := by unfold cutR; rw [if_pos (Or.inr (Or.inl h2))]; rfl
    go_enter Try.func19, Try.ntmps19
    go_wp2_with fail
    refine (rcheck_ok A m c bs _ (by exact ((ha.alloc _).alloc _)) (by omega) hl).mono ?_
    rintro e w1 ⟨rfl, b1⟩
    have s1 := b1.size
    try simp only [World.size_alloc, World.size_setCell, World.size_drew, size_drewN] at s1
    obtain ⟨zb_1, zr_1, rb_1, bb_1⟩ : Blk w1 (w.heap.size) 24 [.slice A m c, .int .i64 ((bs.length : Nat) : Int)] ∧ Blk w1 (w.heap.size + 1) 24 [.slice none 0 0, .int .i64 0] ∧ RowIn .u8 w1 (0) (w.heap.size) A m (pack bs) ∧ Below w.heap.size w w1 := by
      refine ⟨?_, ?_, ?_, ?_⟩
      all_goals repeat' (first | (with_reducible assumption) | (with_reducible exact Below.refl _ _) | (with_reducible refine Blk.after ?_ b1) | (with_reducible refine RowIn.belowS ?_ b1) | (with_reducible refine Below.after ?_ b1 ?_) | (with_reducible refine Blk.drewN ?_ _) | (with_reducible refine RowIn.drewN ?_ _) | (with_reducible refine below_drewN ?_ _) | (with_reducible refine Blk.drew ?_) | (with_reducible refine RowIn.drew ?_) | (with_reducible refine Below.drew ?_) | (with_reducible refine Blk.new' ?_ ?_ <;> first | (with_reducible rfl) | (simp; done)) | (with_reducible refine Blk.alloc ?_ _) | (with_reducible refine RowIn.alloc ?_ _) | (with_reducible refine Below.alloc ?_ ?_ _) | (with_reducible apply Blk.set') | (with_reducible refine Blk.far' ?_ ?_ _) | (with_reducible refine RowIn.far' ?_ ?_ _) | (with_reducible refine Below.far' ?_ ?_ _) | rfl | omega | go_size)
    clear b1
    have kb_1 := zb_1.cell; have fb_1 := zb_1.frozen; have lb_1 := zb_1.lt
    have kr_1 := zr_1.cell; have fr_1 := zr_1.frozen; have lr_1 := zr_1.lt
    go_wp2
    refine bodyPost_ret (v := .tuple #[.agg #[.slice none 0 0, .int .i64 0], .int .i64 2]) (by simp [results, Try.results19, go_sem, kr_1]) rfl ?_
    rw [HR.out]
    refine RetB.of rfl (BitsIn.zero _ _ _) ?_
    repeat' (first | (with_reducible assumption) | (with_reducible exact Below.refl _ _) | (with_reducible refine Blk.drewN ?_ _) | (with_reducible refine RowIn.drewN ?_ _) | (with_reducible refine below_drewN ?_ _) | (with_reducible refine Blk.drew ?_) | (with_reducible refine RowIn.drew ?_) | (with_reducible refine Below.drew ?_) | (with_reducible refine Blk.new' ?_ ?_ <;> first | (with_reducible rfl) | (simp; done)) | (with_reducible refine Blk.alloc ?_ _) | (with_reducible refine RowIn.alloc ?_ _) | (with_reducible refine Below.alloc ?_ ?_ _) | (with_reducible apply Blk.set') | (with_reducible refine Blk.far' ?_ ?_ _) | (with_reducible refine RowIn.far' ?_ ?_ _) | (with_reducible refine Below.far' ?_ ?_ _) | rfl | omega | go_size)
  obtain ⟨i, rfl⟩ := Int.eq_ofNat_of_zero_le (by omega : 0 ≤ p)
  obtain ⟨j, rfl⟩ := Int.eq_ofNat_of_zero_le (by omega : 0 ≤ q)
  have HR : Hid (cutR bs (i : Nat) (j : Nat) = ((bs.drop i).take (j - i), 0)) := by unfold cutR; rw [if_neg (by omega)]; rfl
  go_enter Try.func19, Try.ntmps19
  go_wp2_with fail
  refine (rcheck_ok A m c bs _ (by exact ((ha.alloc _).alloc _)) (by omega) hl).mono ?_
  rintro e w1 ⟨rfl, b1⟩
  have s1 := b1.size
  try simp only [World.size_alloc, World.size_setCell, World.size_drew, size_drewN] at s1
  obtain ⟨zb_1, zr_1, rb_1, bb_1⟩ : Blk w1 (w.heap.size) 24 [.slice A m c, .int .i64 ((bs.length : Nat) : Int)] ∧ Blk w1 (w.heap.size + 1) 24 [.slice none 0 0, .int .i64 0] ∧ RowIn .u8 w1 (0) (w.heap.size) A m (pack bs) ∧ Below w.heap.size w w1 := by
    refine ⟨?_, ?_, ?_, ?_⟩
    all_goals repeat' (first | (with_reducible assumption) | (with_reducible exact Below.refl _ _) | (with_reducible refine Blk.after ?_ b1) | (with_reducible refine RowIn.belowS ?_ b1) | (with_reducible refine Below.after ?_ b1 ?_) | (with_reducible refine Blk.drewN ?_ _) | (with_reducible refine RowIn.drewN ?_ _) | (with_reducible refine below_drewN ?_ _) | (with_reducible refine Blk.drew ?_) | (with_reducible refine RowIn.drew ?_) | (with_reducible refine Below.drew ?_) | (with_reducible refine Blk.new' ?_ ?_ <;> first | (with_reducible rfl) | (simp; done)) | (with_reducible refine Blk.alloc ?_ _) | (with_reducible refine RowIn.alloc ?_ _) | (with_reducible refine Below.alloc ?_ ?_ _) | (with_reducible apply Blk.set') | (with_reducible refine Blk.far' ?_ ?_ _) | (with_reducible refine RowIn.far' ?_ ?_ _) | (with_reducible refine Below.far' ?_ ?_ _) | rfl | omega | go_size)
  clear b1
  have kb_1 := zb_1.cell; have fb_1 := zb_1.frozen; have lb_1 := zb_1.lt
  have kr_1 := zr_1.cell; have fr_1 := zr_1.frozen; have lr_1 := zr_1.lt
  go_wp2_with fail
  refine (rbetween_any A m c bs i j _ rb_1.row hc hl (by omega) (by omega)).mono ?_
  rintro e w2 ⟨Ax, mx, cx, xx, rfl, hcx, rx, HXx, b2⟩
  replace rx := rx.mono (lo' := w1.heap.size + 0) (by go_size) (Nat.le_refl _)
  have s2 := b2.size
  try simp only [World.size_alloc, World.size_setCell, World.size_drew, size_drewN] at s2
  obtain ⟨zb_2, zr_2, rb_2, rx_2, bb_2⟩ : Blk w2 (w.heap.size) 24 [.slice A m c, .int .i64 ((bs.length : Nat) : Int)] ∧ Blk w2 (w.heap.size + 1) 24 [.slice none 0 0, .int .i64 0] ∧ RowIn .u8 w2 (0) (w.heap.size) A m (pack bs) ∧ RowIn .u8 w2 (w1.heap.size + 0) (w2.heap.size) Ax mx (pack xx) ∧ Below w.heap.size w w2 := by
    refine ⟨?_, ?_, ?_, ?_, ?_⟩
    all_goals repeat' (first | (with_reducible assumption) | (with_reducible exact Below.refl _ _) | (with_reducible refine Blk.after ?_ b2) | (with_reducible refine RowIn.belowS ?_ b2) | (with_reducible refine Below.after ?_ b2 ?_) | (with_reducible refine Blk.drewN ?_ _) | (with_reducible refine RowIn.drewN ?_ _) | (with_reducible refine below_drewN ?_ _) | (with_reducible refine Blk.drew ?_) | (with_reducible refine RowIn.drew ?_) | (with_reducible refine Below.drew ?_) | (with_reducible refine Blk.new' ?_ ?_ <;> first | (with_reducible rfl) | (simp; done)) | (with_reducible refine Blk.alloc ?_ _) | (with_reducible refine RowIn.alloc ?_ _) | (with_reducible refine Below.alloc ?_ ?_ _) | (with_reducible apply Blk.set') | (with_reducible refine Blk.far' ?_ ?_ _) | (with_reducible refine RowIn.far' ?_ ?_ _) | (with_reducible refine Below.far' ?_ ?_ _) | rfl | omega | go_size)
  clear zb_1 zr_1 rb_1 bb_1 kb_1 fb_1 lb_1 kr_1 fr_1 lr_1 b2
  have kb_2 := zb_2.cell; have fb_2 := zb_2.frozen; have lb_2 := zb_2.lt
  have kr_2 := zr_2.cell; have fr_2 := zr_2.frozen; have lr_2 := zr_2.lt
  clear rx
  go_wp2
  refine bodyPost_ret (v := .tuple #[.agg #[.slice Ax mx cx, .int .i64 ((xx.length : Nat) : Int)], .int .i64 0]) (by simp [results, Try.results19, go_sem, kr_2]) rfl ?_
  rw [HR.out]
  refine RetB.of (x := .agg #[.slice Ax mx cx, .int .i64 ((xx.length : Nat) : Int)]) rfl ⟨Ax, mx, cx, by rw [HXx.out], hcx, ?_⟩ ?_
  · rw [← HXx.out]
    refine RowIn.mono (lo := w1.heap.size + 0) (hi := w2.heap.size) ?_ (by omega) (by go_size)
    repeat' (first | (with_reducible assumption) | (with_reducible exact Below.refl _ _) | (with_reducible refine Blk.drewN ?_ _) | (with_reducible refine RowIn.drewN ?_ _) | (with_reducible refine below_drewN ?_ _) | (with_reducible refine Blk.drew ?_) | (with_reducible refine RowIn.drew ?_) | (with_reducible refine Below.drew ?_) | (with_reducible refine Blk.new' ?_ ?_ <;> first | (with_reducible rfl) | (simp; done)) | (with_reducible refine Blk.alloc ?_ _) | (with_reducible refine RowIn.alloc ?_ _) | (with_reducible refine Below.alloc ?_ ?_ _) | (with_reducible apply Blk.set') | (with_reducible refine Blk.far' ?_ ?_ _) | (with_reducible refine RowIn.far' ?_ ?_ _) | (with_reducible refine Below.far' ?_ ?_ _) | rfl | omega | go_size)
  · repeat' (first | (with_reducible assumption) | (with_reducible exact Below.refl _ _) | (with_reducible refine Blk.drewN ?_ _) | (with_reducible refine RowIn.drewN ?_ _) | (with_reducible refine below_drewN ?_ _) | (with_reducible refine Blk.drew ?_) | (with_reducible refine RowIn.drew ?_) | (with_reducible refine Below.drew ?_) | (with_reducible refine Blk.new' ?_ ?_ <;> first | (with_reducible rfl) | (simp; done)) | (with_reducible refine Blk.alloc ?_ _) | (with_reducible refine RowIn.alloc ?_ _) | (with_reducible refine Below.alloc ?_ ?_ _) | (with_reducible apply Blk.set') | (with_reducible refine Blk.far' ?_ ?_ _) | (with_reducible refine RowIn.far' ?_ ?_ _) | (with_reducible refine Below.far' ?_ ?_ _) | rfl | omega | go_size)


set_option maxHeartbeats 400000 in
theorem rof_ret (A : Option Addr) (n c : Nat) (bytes : List Int) (w : World) (ha : Row .u8 w A n bytes) (hb : Within 0 255 bytes) (hc : n ≤ c ∧ c ≤ 9223372036854775807) :
    Calls Try.prog 21 #[.slice A n c] w (RetB w (ofR bytes).1 (ofR bytes).2) := by
  have hx := ha.len
  by_cases h1 : 41250 < n
  · have HR : Hid (ofR bytes = ([], 4)) := by unfold ofR; rw [if_pos (by omega)]; rfl
    clear hx
    go_enter Try.func21, Try.ntmps21
    go_wp2
    refine bodyPost_ret (v := .tuple #[.agg #[.slice none 0 0, .int .i64 0], .int .i64 4]) (by simp [results, Try.results21, go_sem]) rfl ?_
    rw [HR.out]
    refine RetB.of rfl (BitsIn.zero _ _ _) ?_
    repeat' (first | (with_reducible assumption) | (with_reducible exact Below.refl _ _) | (with_reducible refine Blk.drewN ?_ _) | (with_reducible refine RowIn.drewN ?_ _) | (with_reducible refine below_drewN ?_ _) | (with_reducible refine Blk.drew ?_) | (with_reducible refine RowIn.drew ?_) | (with_reducible refine Below.drew ?_) | (with_reducible refine Blk.new' ?_ ?_ <;> first | (with_reducible rfl) | (simp; done)) | (with_reducible refine Blk.alloc ?_ _) | (with_reducible refine RowIn.alloc ?_ _) | (with_reducible refine Below.alloc ?_ ?_ _) | (with_reducible apply Blk.set') | (with_reducible refine Blk.far' ?_ ?_ _) | (with_reducible refine RowIn.far' ?_ ?_ _) | (with_reducible refine Below.far' ?_ ?_ _) | rfl | omega | go_size)
  · have HR : Hid (ofR bytes = (unpack bytes, 0)) := by unfold ofR; rw [if_neg (by omega)]; rfl
    have HX := Lib.hid hx
    clear hx
    go_enter Try.func21, Try.ntmps21
    go_wp2_with (at_builtin; refine wpList_app _ u8E rfl _ _ rfl (w.heap.size + 1) _ _ _ [] rfl (by exact own_empty' (by simp) (by simp)) _ _ _ bytes rfl (by exact ((ha.alloc _).alloc _)) (by omega) (by simp) ?_)
    intro B1 d1 w1 own1 hg1 hat1
    have b1 : Below w.heap.size w w1 := by
      refine Below.grown ?_ hg1 ?_ (fun g e => by simp [blockOf] at e; omega)
      all_goals repeat' (first | (with_reducible assumption) | (with_reducible exact Below.refl _ _) | (with_reducible refine Blk.drewN ?_ _) | (with_reducible refine RowIn.drewN ?_ _) | (with_reducible refine below_drewN ?_ _) | (with_reducible refine Blk.drew ?_) | (with_reducible refine RowIn.drew ?_) | (with_reducible refine Below.drew ?_) | (with_reducible refine Blk.new' ?_ ?_ <;> first | (with_reducible rfl) | (simp; done)) | (with_reducible refine Blk.alloc ?_ _) | (with_reducible refine RowIn.alloc ?_ _) | (with_reducible refine Below.alloc ?_ ?_ _) | (with_reducible apply Blk.set') | (with_reducible refine Blk.far' ?_ ?_ _) | (with_reducible refine RowIn.far' ?_ ?_ _) | (with_reducible refine Below.far' ?_ ?_ _) | rfl | omega | go_size)
    have zr : Blk w1 w.heap.size 24 [.slice none 0 0, .int .i64 0] := by
      refine Blk.grown ?_ hg1 (fun e => by simp [blockOf] at e)
      repeat' (first | (with_reducible assumption) | (with_reducible exact Below.refl _ _) | (with_reducible refine Blk.drewN ?_ _) | (with_reducible refine RowIn.drewN ?_ _) | (with_reducible refine below_drewN ?_ _) | (with_reducible refine Blk.drew ?_) | (with_reducible refine RowIn.drew ?_) | (with_reducible refine Below.drew ?_) | (with_reducible refine Blk.new' ?_ ?_ <;> first | (with_reducible rfl) | (simp; done)) | (with_reducible refine Blk.alloc ?_ _) | (with_reducible refine RowIn.alloc ?_ _) | (with_reducible refine Below.alloc ?_ ?_ _) | (with_reducible apply Blk.set') | (with_reducible refine Blk.far' ?_ ?_ _) | (with_reducible refine RowIn.far' ?_ ?_ _) | (with_reducible refine Below.far' ?_ ?_ _) | rfl | omega | go_size)
    have kr := zr.cell; have fr := zr.frozen; have lr := zr.lt
    have hne : blockOf B1 ≠ some w.heap.size := own1.ne_blk zr (by decide)
    have rw1 := own1.rowIn
    clear hg1 hat1
    go_wp2
    refine bodyPost_ret (v := .tuple #[.agg #[.slice B1 n d1, .int .i64 (8 * (n : Int))], .int .i64 0]) (by simp [results, Try.results21, go_sem, kr]) rfl ?_
    rw [HR.out]
    refine RetB.of (x := .agg #[.slice B1 n d1, .int .i64 (8 * (n : Int))]) rfl ⟨B1, n, d1, by rw [unpack_len, HX.out]; rfl, own1.rowC.2, ?_⟩ ?_
    · rw [pack_unpack hb]
      refine RowIn.mono (lo := w.heap.size + 1) (hi := w1.heap.size) ?_ (by omega) (by go_size)
      repeat' (first | (with_reducible assumption) | (with_reducible exact Below.refl _ _) | (with_reducible refine Blk.drewN ?_ _) | (with_reducible refine RowIn.drewN ?_ _) | (with_reducible refine below_drewN ?_ _) | (with_reducible refine Blk.drew ?_) | (with_reducible refine RowIn.drew ?_) | (with_reducible refine Below.drew ?_) | (with_reducible refine Blk.new' ?_ ?_ <;> first | (with_reducible rfl) | (simp; done)) | (with_reducible refine Blk.alloc ?_ _) | (with_reducible refine RowIn.alloc ?_ _) | (with_reducible refine Below.alloc ?_ ?_ _) | (with_reducible apply Blk.set') | (with_reducible refine Blk.far' ?_ ?_ _) | (with_reducible refine RowIn.far' ?_ ?_ _) | (with_reducible refine Below.far' ?_ ?_ _) | rfl | omega | go_size)
    · repeat' (first | (with_reducible assumption) | (with_reducible exact Below.refl _ _) | (with_reducible refine Blk.drewN ?_ _) | (with_reducible refine RowIn.drewN ?_ _) | (with_reducible refine below_drewN ?_ _) | (with_reducible refine Blk.drew ?_) | (with_reducible refine RowIn.drew ?_) | (with_reducible refine Below.drew ?_) | (with_reducible refine Blk.new' ?_ ?_ <;> first | (with_reducible rfl) | (simp; done)) | (with_reducible refine Blk.alloc ?_ _) | (with_reducible refine RowIn.alloc ?_ _) | (with_reducible refine Below.alloc ?_ ?_ _) | (with_reducible apply Blk.set') | (with_reducible refine Blk.far' ?_ ?_ _) | (with_reducible refine RowIn.far' ?_ ?_ _) | (with_reducible refine Below.far' ?_ ?_ _) | rfl | omega | go_size)


set_option maxHeartbeats 400000 in
theorem rfilled_any (A : Option Addr) (m c : Nat) (bs : List Bool) (w : World) (ha : Row .u8 w A m (pack bs)) (hl : bs.length ≤ 330000) :
    Calls Try.prog 37 #[.agg #[.slice A m c, .int .i64 ((bs.length : Nat) : Int)]] w (RetB1 w (unpack (pack bs))) := by
  have hm : m ≤ 41250 := by have := ha.len; rw [pack_len] at this; unfold bytesFor at this; omega
  have HX := Lib.hid ha.len
  go_enter Try.func37, Try.ntmps37
  go_wp2_with fail
  refine (rtwin_any A m c _ (pack bs) _ (by exact ((ha.alloc _).alloc _)) (by omega)).mono ?_
  rintro e w1 ⟨B1, d1, rfl, own1, b1⟩
  have s1 := b1.size
  try simp only [World.size_alloc, World.size_setCell, World.size_drew, size_drewN] at s1
  obtain ⟨zb_1, zr_1, bb_1⟩ : Blk w1 (w.heap.size) 24 [.slice A m c, .int .i64 ((bs.length : Nat) : Int)] ∧ Blk w1 (w.heap.size + 1) 24 [.slice none 0 0, .int .i64 0] ∧ Below w.heap.size w w1 := by
    refine ⟨?_, ?_, ?_⟩
    all_goals repeat' (first | (with_reducible assumption) | (with_reducible exact Below.refl _ _) | (with_reducible refine Blk.after ?_ b1) | (with_reducible refine RowIn.belowS ?_ b1) | (with_reducible refine Below.after ?_ b1 ?_) | (with_reducible refine Blk.drewN ?_ _) | (with_reducible refine RowIn.drewN ?_ _) | (with_reducible refine below_drewN ?_ _) | (with_reducible refine Blk.drew ?_) | (with_reducible refine RowIn.drew ?_) | (with_reducible refine Below.drew ?_) | (with_reducible refine Blk.new' ?_ ?_ <;> first | (with_reducible rfl) | (simp; done)) | (with_reducible refine Blk.alloc ?_ _) | (with_reducible refine RowIn.alloc ?_ _) | (with_reducible refine Below.alloc ?_ ?_ _) | (with_reducible apply Blk.set') | (with_reducible refine Blk.far' ?_ ?_ _) | (with_reducible refine RowIn.far' ?_ ?_ _) | (with_reducible refine Below.far' ?_ ?_ _) | rfl | omega | go_size)
  have kb_1 := zb_1.cell; have fb_1 := zb_1.frozen; have lb_1 := zb_1.lt
  have kr_1 := zr_1.cell; have fr_1 := zr_1.frozen; have lr_1 := zr_1.lt
  have rw1 := own1.rowIn.mono (lo' := w.heap.size + 2) (by go_size) (Nat.le_refl _)
  go_wp2
  refine bodyPost_ret (v := .agg #[.slice B1 m d1, .int .i64 (8 * (m : Int))]) (by simp [results, Try.results37, go_sem, kr_1, lr_1]) rfl ?_
  refine RetB1.of (x := .agg #[.slice B1 m d1, .int .i64 (8 * (m : Int))]) rfl ⟨B1, m, d1, by rw [unpack_len, HX.out]; rfl, own1.rowC.2, ?_⟩ ?_
  · rw [pack_unpack (pack_u8 _)]
    refine RowIn.mono (lo := w.heap.size + 2) (hi := w1.heap.size) ?_ (by omega) (by go_size)
    repeat' (first | (with_reducible assumption) | (with_reducible exact Below.refl _ _) | (with_reducible refine Blk.drewN ?_ _) | (with_reducible refine RowIn.drewN ?_ _) | (with_reducible refine below_drewN ?_ _) | (with_reducible refine Blk.drew ?_) | (with_reducible refine RowIn.drew ?_) | (with_reducible refine Below.drew ?_) | (with_reducible refine Blk.new' ?_ ?_ <;> first | (with_reducible rfl) | (simp; done)) | (with_reducible refine Blk.alloc ?_ _) | (with_reducible refine RowIn.alloc ?_ _) | (with_reducible refine Below.alloc ?_ ?_ _) | (with_reducible apply Blk.set') | (with_reducible refine Blk.far' ?_ ?_ _) | (with_reducible refine RowIn.far' ?_ ?_ _) | (with_reducible refine Below.far' ?_ ?_ _) | rfl | omega | go_size)
  · repeat' (first | (with_reducible assumption) | (with_reducible exact Below.refl _ _) | (with_reducible refine Blk.drewN ?_ _) | (with_reducible refine RowIn.drewN ?_ _) | (with_reducible refine below_drewN ?_ _) | (with_reducible refine Blk.drew ?_) | (with_reducible refine RowIn.drew ?_) | (with_reducible refine Below.drew ?_) | (with_reducible refine Blk.new' ?_ ?_ <;> first | (with_reducible rfl) | (simp; done)) | (with_reducible refine Blk.alloc ?_ _) | (with_reducible refine RowIn.alloc ?_ _) | (with_reducible refine Below.alloc ?_ ?_ _) | (with_reducible apply Blk.set') | (with_reducible refine Blk.far' ?_ ?_ _) | (with_reducible refine RowIn.far' ?_ ?_ _) | (with_reducible refine Below.far' ?_ ?_ _) | rfl | omega | go_size)


set_option maxHeartbeats 400000 in
theorem ralign_ret (A : Option Addr) (m c : Nat) (bs : List Bool) (w : World) (ha : Row .u8 w A m (pack bs)) (hc : m ≤ c ∧ c ≤ 9223372036854775807) (hl : bs.length ≤ 330000) :
    Calls Try.prog 23 #[.agg #[.slice A m c, .int .i64 ((bs.length : Nat) : Int)]] w (RetB w (unpack (pack bs)) 0) := by
  have hri := ha.rowIn
  go_enter Try.func23, Try.ntmps23
  go_wp2_with fail
  refine (rcheck_ok A m c bs _ (by exact ((ha.alloc _).alloc _)) (by omega) hl).mono ?_
  rintro e w1 ⟨rfl, b1⟩
  have s1 := b1.size
  try simp only [World.size_alloc, World.size_setCell, World.size_drew, size_drewN] at s1
  obtain ⟨zb_1, zr_1, rb_1, bb_1⟩ : Blk w1 (w.heap.size) 24 [.slice A m c, .int .i64 ((bs.length : Nat) : Int)] ∧ Blk w1 (w.heap.size + 1) 24 [.slice none 0 0, .int .i64 0] ∧ RowIn .u8 w1 (0) (w.heap.size) A m (pack bs) ∧ Below w.heap.size w w1 := by
    refine ⟨?_, ?_, ?_, ?_⟩
    all_goals repeat' (first | (with_reducible assumption) | (with_reducible exact Below.refl _ _) | (with_reducible refine Blk.after ?_ b1) | (with_reducible refine RowIn.belowS ?_ b1) | (with_reducible refine Below.after ?_ b1 ?_) | (with_reducible refine Blk.drewN ?_ _) | (with_reducible refine RowIn.drewN ?_ _) | (with_reducible refine below_drewN ?_ _) | (with_reducible refine Blk.drew ?_) | (with_reducible refine RowIn.drew ?_) | (with_reducible refine Below.drew ?_) | (with_reducible refine Blk.new' ?_ ?_ <;> first | (with_reducible rfl) | (simp; done)) | (with_reducible refine Blk.alloc ?_ _) | (with_reducible refine RowIn.alloc ?_ _) | (with_reducible refine Below.alloc ?_ ?_ _) | (with_reducible apply Blk.set') | (with_reducible refine Blk.far' ?_ ?_ _) | (with_reducible refine RowIn.far' ?_ ?_ _) | (with_reducible refine Below.far' ?_ ?_ _) | rfl | omega | go_size)
  clear b1
  have kb_1 := zb_1.cell; have fb_1 := zb_1.frozen; have lb_1 := zb_1.lt
  have kr_1 := zr_1.cell; have fr_1 := zr_1.frozen; have lr_1 := zr_1.lt
  go_wp2_with fail
  refine (rfilled_any A m c bs _ rb_1.row hl).mono ?_
  rintro e w2 ⟨Ax, mx, cx, xx, rfl, hcx, rx, HXx, b2⟩
  replace rx := rx.mono (lo' := w1.heap.size + 0) (by go_size) (Nat.le_refl _)
  have s2 := b2.size
  try simp only [World.size_alloc, World.size_setCell, World.size_drew, size_drewN] at s2
  obtain ⟨zb_2, zr_2, rb_2, rx_2, bb_2⟩ : Blk w2 (w.heap.size) 24 [.slice A m c, .int .i64 ((bs.length : Nat) : Int)] ∧ Blk w2 (w.heap.size + 1) 24 [.slice none 0 0, .int .i64 0] ∧ RowIn .u8 w2 (0) (w.heap.size) A m (pack bs) ∧ RowIn .u8 w2 (w1.heap.size + 0) (w2.heap.size) Ax mx (pack xx) ∧ Below w.heap.size w w2 := by
    refine ⟨?_, ?_, ?_, ?_, ?_⟩
    all_goals repeat' (first | (with_reducible assumption) | (with_reducible exact Below.refl _ _) | (with_reducible refine Blk.after ?_ b2) | (with_reducible refine RowIn.belowS ?_ b2) | (with_reducible refine Below.after ?_ b2 ?_) | (with_reducible refine Blk.drewN ?_ _) | (with_reducible refine RowIn.drewN ?_ _) | (with_reducible refine below_drewN ?_ _) | (with_reducible refine Blk.drew ?_) | (with_reducible refine RowIn.drew ?_) | (with_reducible refine Below.drew ?_) | (with_reducible refine Blk.new' ?_ ?_ <;> first | (with_reducible rfl) | (simp; done)) | (with_reducible refine Blk.alloc ?_ _) | (with_reducible refine RowIn.alloc ?_ _) | (with_reducible refine Below.alloc ?_ ?_ _) | (with_reducible apply Blk.set') | (with_reducible refine Blk.far' ?_ ?_ _) | (with_reducible refine RowIn.far' ?_ ?_ _) | (with_reducible refine Below.far' ?_ ?_ _) | rfl | omega | go_size)
  clear zb_1 zr_1 rb_1 bb_1 kb_1 fb_1 lb_1 kr_1 fr_1 lr_1 b2
  have kb_2 := zb_2.cell; have fb_2 := zb_2.frozen; have lb_2 := zb_2.lt
  have kr_2 := zr_2.cell; have fr_2 := zr_2.frozen; have lr_2 := zr_2.lt
  clear rx
  go_wp2
  refine bodyPost_ret (v := .tuple #[.agg #[.slice Ax mx cx, .int .i64 ((xx.length : Nat) : Int)], .int .i64 0]) (by simp [results, Try.results23, go_sem, kr_2]) rfl ?_
  refine RetB.of (x := .agg #[.slice Ax mx cx, .int .i64 ((xx.length : Nat) : Int)]) rfl ⟨Ax, mx, cx, by rw [HXx.out], hcx, ?_⟩ ?_
  · rw [← HXx.out]
    refine RowIn.mono (lo := w1.heap.size + 0) (hi := w2.heap.size) ?_ (by omega) (by go_size)
    repeat' (first | (with_reducible assumption) | (with_reducible exact Below.refl _ _) | (with_reducible refine Blk.drewN ?_ _) | (with_reducible refine RowIn.drewN ?_ _) | (with_reducible refine below_drewN ?_ _) | (with_reducible refine Blk.drew ?_) | (with_reducible refine RowIn.drew ?_) | (with_reducible refine Below.drew ?_) | (with_reducible refine Blk.new' ?_ ?_ <;> first | (with_reducible rfl) | (simp; done)) | (with_reducible refine Blk.alloc ?_ _) | (with_reducible refine RowIn.alloc ?_ _) | (with_reducible refine Below.alloc ?_ ?_ _) | (with_reducible apply Blk.set') | (with_reducible refine Blk.far' ?_ ?_ _) | (with_reducible refine RowIn.far' ?_ ?_ _) | (with_reducible refine Below.far' ?_ ?_ _) | rfl | omega | go_size)
  · repeat' (first | (with_reducible assumption) | (with_reducible exact Below.refl _ _) | (with_reducible refine Blk.drewN ?_ _) | (with_reducible refine RowIn.drewN ?_ _) | (with_reducible refine below_drewN ?_ _) | (with_reducible refine Blk.drew ?_) | (with_reducible refine RowIn.drew ?_) | (with_reducible refine Below.drew ?_) | (with_reducible refine Blk.new' ?_ ?_ <;> first | (with_reducible rfl) | (simp; done)) | (with_reducible refine Blk.alloc ?_ _) | (with_reducible refine RowIn.alloc ?_ _) | (with_reducible refine Below.alloc ?_ ?_ _) | (with_reducible apply Blk.set') | (with_reducible refine Blk.far' ?_ ?_ _) | (with_reducible refine RowIn.far' ?_ ?_ _) | (with_reducible refine Below.far' ?_ ?_ _) | rfl | omega | go_size)


set_option maxHeartbeats 400000 in
theorem rcut_bad (A : Option Addr) (m c : Nat) (N : Int) (bytes : List Int) (p q : Int) (w : World) (ha : Row .u8 w A m bytes) (hb : Within 0 255 bytes) (hc : m ≤ c ∧ c ≤ 9223372036854775807) (hv : ¬ Valid bytes N) :
    Calls Try.prog 19 #[.agg #[.slice A m c, .int .i64 N], .int .i64 p, .int .i64 q] w (RetB w [] 8) := by
  go_enter Try.func19, Try.ntmps19
  go_wp2_with fail
  refine (rcheck_bad A m c N bytes _ (by exact ((ha.alloc _).alloc _)) hb (by omega) hv).mono ?_
  rintro e w1 ⟨rfl, b1⟩
  have s1 := b1.size
  try simp only [World.size_alloc, World.size_setCell, World.size_drew, size_drewN] at s1
  obtain ⟨zb_1, zr_1, bb_1⟩ : Blk w1 (w.heap.size) 24 [.slice A m c, .int .i64 N] ∧ Blk w1 (w.heap.size + 1) 24 [.slice none 0 0, .int .i64 0] ∧ Below w.heap.size w w1 := by
    refine ⟨?_, ?_, ?_⟩
    all_goals repeat' (first | (with_reducible assumption) | (with_reducible exact Below.refl _ _) | (with_reducible refine Blk.after ?_ b1) | (with_reducible refine RowIn.belowS ?_ b1) | (with_reducible refine Below.after ?_ b1 ?_) | (with_reducible refine Blk.drewN ?_ _) | (with_reducible refine RowIn.drewN ?_ _) | (with_reducible refine below_drewN ?_ _) | (with_reducible refine Blk.drew ?_) | (with_reducible refine RowIn.drew ?_) | (with_reducible refine Below.drew ?_) | (with_reducible refine Blk.new' ?_ ?_ <;> first | (with_reducible rfl) | (simp; done)) | (with_reducible refine Blk.alloc ?_ _) | (with_reducible refine RowIn.alloc ?_ _) | (with_reducible refine Below.alloc ?_ ?_ _) | (with_reducible apply Blk.set') | (with_reducible refine Blk.far' ?_ ?_ _) | (with_reducible refine RowIn.far' ?_ ?_ _) | (with_reducible refine Below.far' ?_ ?_ _) | rfl | omega | go_size)
  clear b1
  have kb_1 := zb_1.cell; have fb_1 := zb_1.frozen; have lb_1 := zb_1.lt
  have kr_1 := zr_1.cell; have fr_1 := zr_1.frozen; have lr_1 := zr_1.lt
  go_wp2
  refine bodyPost_ret (v := .tuple #[.agg #[.slice none 0 0, .int .i64 0], .int .i64 8]) (by simp [results, Try.results19, go_sem, kr_1]) rfl ?_
  refine RetB.of rfl (BitsIn.zero _ _ _) ?_
  repeat' (first | (with_reducible assumption) | (with_reducible exact Below.refl _ _) | (with_reducible refine Blk.drewN ?_ _) | (with_reducible refine RowIn.drewN ?_ _) | (with_reducible refine below_drewN ?_ _) | (with_reducible refine Blk.drew ?_) | (with_reducible refine RowIn.drew ?_) | (with_reducible refine Below.drew ?_) | (with_reducible refine Blk.new' ?_ ?_ <;> first | (with_reducible rfl) | (simp; done)) | (with_reducible refine Blk.alloc ?_ _) | (with_reducible refine RowIn.alloc ?_ _) | (with_reducible refine Below.alloc ?_ ?_ _) | (with_reducible apply Blk.set') | (with_reducible refine Blk.far' ?_ ?_ _) | (with_reducible refine RowIn.far' ?_ ?_ _) | (with_reducible refine Below.far' ?_ ?_ _) | rfl | omega | go_size)


set_option maxHeartbeats 400000 in
theorem ralign_bad (A : Option Addr) (m c : Nat) (N : Int) (bytes : List Int) (w : World) (ha : Row .u8 w A m bytes) (hb : Within 0 255 bytes) (hc : m ≤ c ∧ c ≤ 9223372036854775807) (hv : ¬ Valid bytes N) :
    Calls Try.prog 23 #[.agg #[.slice A m c, .int .i64 N]] w (RetB w [] 8) := by
  go_enter Try.func23, Try.ntmps23
  go_wp2_with fail
  refine (rcheck_bad A m c N bytes _ (by exact ((ha.alloc _).alloc _)) hb (by omega) hv).mono ?_
  rintro e w1 ⟨rfl, b1⟩
  have s1 := b1.size
  try simp only [World.size_alloc, World.size_setCell, World.size_drew, size_drewN] at s1
  obtain ⟨zb_1, zr_1, bb_1⟩ : Blk w1 (w.heap.size) 24 [.slice A m c, .int .i64 N] ∧ Blk w1 (w.heap.size + 1) 24 [.slice none 0 0, .int .i64 0] ∧ Below w.heap.size w w1 := by
    refine ⟨?_, ?_, ?_⟩
    all_goals repeat' (first | (with_reducible assumption) | (with_reducible exact Below.refl _ _) | (with_reducible refine Blk.after ?_ b1) | (with_reducible refine RowIn.belowS ?_ b1) | (with_reducible refine Below.after ?_ b1 ?_) | (with_reducible refine Blk.drewN ?_ _) | (with_reducible refine RowIn.drewN ?_ _) | (with_reducible refine below_drewN ?_ _) | (with_reducible refine Blk.drew ?_) | (with_reducible refine RowIn.drew ?_) | (with_reducible refine Below.drew ?_) | (with_reducible refine Blk.new' ?_ ?_ <;> first | (with_reducible rfl) | (simp; done)) | (with_reducible refine Blk.alloc ?_ _) | (with_reducible refine RowIn.alloc ?_ _) | (with_reducible refine Below.alloc ?_ ?_ _) | (with_reducible apply Blk.set') | (with_reducible refine Blk.far' ?_ ?_ _) | (with_reducible refine RowIn.far' ?_ ?_ _) | (with_reducible refine Below.far' ?_ ?_ _) | rfl | omega | go_size)
  clear b1
  have kb_1 := zb_1.cell; have fb_1 := zb_1.frozen; have lb_1 := zb_1.lt
  have kr_1 := zr_1.cell; have fr_1 := zr_1.frozen; have lr_1 := zr_1.lt
  go_wp2
  refine bodyPost_ret (v := .tuple #[.agg #[.slice none 0 0, .int .i64 0], .int .i64 8]) (by simp [results, Try.results23, go_sem, kr_1]) rfl ?_
  refine RetB.of rfl (BitsIn.zero _ _ _) ?_
  repeat' (first | (with_reducible assumption) | (with_reducible exact Below.refl _ _) | (with_reducible refine Blk.drewN ?_ _) | (with_reducible refine RowIn.drewN ?_ _) | (with_reducible refine below_drewN ?_ _) | (with_reducible refine Blk.drew ?_) | (with_reducible refine RowIn.drew ?_) | (with_reducible refine Below.drew ?_) | (with_reducible refine Blk.new' ?_ ?_ <;> first | (with_reducible rfl) | (simp; done)) | (with_reducible refine Blk.alloc ?_ _) | (with_reducible refine RowIn.alloc ?_ _) | (with_reducible refine Below.alloc ?_ ?_ _) | (with_reducible apply Blk.set') | (with_reducible refine Blk.far' ?_ ?_ _) | (with_reducible refine RowIn.far' ?_ ?_ _) | (with_reducible refine Below.far' ?_ ?_ _) | rfl | omega | go_size)

end Go.Proofs.Ytlkgdkefimlmdaa
