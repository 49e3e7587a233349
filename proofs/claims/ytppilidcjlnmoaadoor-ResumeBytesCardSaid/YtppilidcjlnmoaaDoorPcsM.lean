/-
  Contract of the reference of chapter 10: Fed.
-/
import Derived.Test.YtppilidcjlnmoaaDoorResC
import Derived.Test.YtppilidcjlnmoaaDoorRefN
import Derived.Test.YtppilidcjlnmoaaDoorRefZ
import Derived.Test.YtppilidcjlnmoaaDoorRefD
import Derived.Test.YtppilidcjlnmoaaDoorRefB
import Derived.Test.YtppilidcjlnmoaaDoorSt
import Derived.Test.YtppilidcjlnmoaaDoorLawRZ
import Derived.Test.YtppilidcjlnmoaaDoorMerge
namespace Go.Proofs.YtppilidcjlnmoaaDoor
open Go.RowKit Cad Cad.Bit Cad.Code
set_option linter.unusedVariables false
set_option linter.unusedSimpArgs false


set_option maxRecDepth 100000 in
set_option maxHeartbeats 4000000 in
theorem rfed_ok (n x0 x1 y0 y1 m c : Nat) (A : Option Addr) (bs : List Bool) (D : Option Addr) (nb cb : Nat) (xs : List Int) (w : World) (hn : n ≤ 4000) (hf : FOk n ⟨x0, x1, y0, y1⟩ bs) (ha : Row .u8 w A m (pack bs)) (hc : m ≤ c ∧ c ≤ 9223372036854775807) (hd : Row .u8 w D nb xs) (hdc : nb ≤ cb ∧ cb ≤ 9223372036854775807) (hx : Within 0 255 xs) (hb : nb ≤ 1000) :
    Calls Tryd.prog 54 #[.agg #[.int .i64 (n : Int), .int .i64 (x0 : Int), .int .i64 (x1 : Int), .int .u64 (y0 : Int), .int .u64 (y1 : Int), .slice A m c, .int .i64 (((bs.length : Nat)) : Int)], .slice D nb cb] w (RetF w (feed n ⟨x0, x1, y0, y1⟩ (bs ++ unpack xs))) := by
  have hri := ha.rowIn
  have hdi := hd.rowIn
  have HXL := Lib.hid hd.len
  have hml : m ≤ 41250 := by have := ha.len; rw [pack_len] at this; have := hf.short; unfold bytesFor at *; omega
  have hbl := hf.short
  have HF := Lib.hid hf
  clear hf
  go_enter Tryd.func54, Tryd.ntmps54
  go_wp2_with fail
  refine (rtwin_any A m c _ (pack bs) _ (by exact RowIn.row (lo := 0) (hi := w.heap.size) (by repeat' (first | (with_reducible assumption) | (with_reducible exact Below.refl _ _) | (with_reducible refine Blk.drewN ?_ _) | (with_reducible refine RowIn.drewN ?_ _) | (with_reducible refine below_drewN ?_ _) | (with_reducible refine Blk.drew ?_) | (with_reducible refine RowIn.drew ?_) | (with_reducible refine Below.drew ?_) | (with_reducible refine Blk.new' ?_ ?_ <;> first | (with_reducible rfl) | (simp; done)) | (with_reducible refine Blk.alloc ?_ _) | (with_reducible refine RowIn.alloc ?_ _) | (with_reducible refine Below.alloc ?_ ?_ _) | (with_reducible apply Blk.set') | (with_reducible apply Blk.far') | (with_reducible refine RowIn.far' ?_ ?_ _) | (with_reducible refine Below.far' ?_ ?_ _) | rfl | omega | go_size))) (by omega)).mono ?_
  rintro e w1 ⟨B, d, rfl, own1, b1⟩
  replace own1 := own1.mono (base' := w.heap.size + 1 + 1) (by go_size)
  have s1 := b1.size
  try simp only [World.size_alloc, World.size_setCell, World.size_drew, size_drewN] at s1
  obtain ⟨zs_1, zr_1, ra_1, rd_1, bb_1⟩ : Blk w1 (w.heap.size) 40 [.int .i64 (n : Int), .int .i64 (x0 : Int), .int .i64 (x1 : Int), .int .u64 (y0 : Int), .int .u64 (y1 : Int), .slice A m c, .int .i64 (((bs.length : Nat)) : Int)] ∧ Blk w1 (w.heap.size + 1) 40 [.int .i64 0, .int .i64 0, .int .i64 0, .int .u64 0, .int .u64 0, .slice none 0 0, .int .i64 0] ∧ RowIn .u8 w1 (0) (w.heap.size) A m (pack bs) ∧ RowIn .u8 w1 (0) (w.heap.size) D nb xs ∧ Below w.heap.size w w1 := by
    refine ⟨?_, ?_, ?_, ?_, ?_⟩
    all_goals repeat' (first | (with_reducible assumption) | (with_reducible exact Below.refl _ _) | (with_reducible refine Blk.drewN ?_ _) | (with_reducible refine RowIn.drewN ?_ _) | (with_reducible refine below_drewN ?_ _) | (with_reducible refine Blk.drew ?_) | (with_reducible refine RowIn.drew ?_) | (with_reducible refine Below.drew ?_) | (with_reducible refine Blk.new' ?_ ?_ <;> first | (with_reducible rfl) | (simp; done)) | (with_reducible refine Blk.alloc ?_ _) | (with_reducible refine RowIn.alloc ?_ _) | (with_reducible refine Below.alloc ?_ ?_ _) | (with_reducible apply Blk.set') | (with_reducible apply Blk.far') | (with_reducible refine RowIn.far' ?_ ?_ _) | (with_reducible refine Below.far' ?_ ?_ _) | (with_reducible refine Blk.after ?_ b1) | (with_reducible refine RowIn.belowS ?_ b1) | (with_reducible refine Below.after ?_ b1 ?_) | rfl | omega | go_size)
  clear b1
  have ks_1 := zs_1.cell; have fs_1 := zs_1.frozen; have ls_1 := zs_1.lt
  have kr_1 := zr_1.cell; have fr_1 := zr_1.frozen; have lr_1 := zr_1.lt
  go_wp2_with fail
  go_loopg [8] nb (fun k v wr => ∃ (i m9 d9 : Nat) (B9 : Option Addr) (y : List Bool), i + k = nb ∧ v = .int .i64 (i : Nat) ∧ Hid (y = bs ++ unpack (xs.take i)) ∧ y.length ≤ 80 + 8 * i ∧ Own wr (w.heap.size + 1 + 1) 5 .u8 B9 m9 d9 (pack y) ∧ Blk wr (w.heap.size) 40 [.int .i64 (n : Int), .int .i64 (x0 : Int), .int .i64 (x1 : Int), .int .u64 (y0 : Int), .int .u64 (y1 : Int), .slice A m c, .int .i64 (((bs.length : Nat)) : Int)] ∧ Blk wr (w.heap.size + 1) 40 [.int .i64 0, .int .i64 0, .int .i64 0, .int .u64 0, .int .u64 0, .slice none 0 0, .int .i64 0] ∧ Blk wr (w1.heap.size) 24 [.slice B9 m9 d9, .int .i64 ((y.length : Nat) : Int)] ∧ Below w.heap.size w wr ∧ w1.heap.size < wr.heap.size)
  case atStart =>
    refine ⟨0, m, d, B, bs, by omega, rfl, Lib.hid ?_, by omega, own1.alloc _, ?_, ?_, ?_, ?_, by go_size⟩
    · rw [List.take_zero, show unpack ([] : List Int) = [] from rfl, List.append_nil]
    all_goals repeat' (first | (with_reducible assumption) | (with_reducible exact Below.refl _ _) | (with_reducible refine Blk.drewN ?_ _) | (with_reducible refine RowIn.drewN ?_ _) | (with_reducible refine below_drewN ?_ _) | (with_reducible refine Blk.drew ?_) | (with_reducible refine RowIn.drew ?_) | (with_reducible refine Below.drew ?_) | (with_reducible refine Blk.new' ?_ ?_ <;> first | (with_reducible rfl) | (simp; done)) | (with_reducible refine Blk.alloc ?_ _) | (with_reducible refine RowIn.alloc ?_ _) | (with_reducible refine Below.alloc ?_ ?_ _) | (with_reducible apply Blk.set') | (with_reducible apply Blk.far') | (with_reducible refine RowIn.far' ?_ ?_ _) | (with_reducible refine Below.far' ?_ ?_ _) | rfl | omega | go_size)
  case round =>
    obtain ⟨i, m2, d2, B2, y, hi, rfl, HY, hyl, own5, zs_5, zr_5, za_5, bb_5, sw1⟩ := hrel
    clear own1 zs_1 zr_1 ra_1 rd_1 bb_1 ks_1 fs_1 ls_1 kr_1 fr_1 lr_1
    have ks_5 := zs_5.cell; have fs_5 := zs_5.frozen; have ls_5 := zs_5.lt
    have kr_5 := zr_5.cell; have fr_5 := zr_5.frozen; have lr_5 := zr_5.lt
    have ka_5 := za_5.cell; have fa_5 := za_5.frozen; have la_5 := za_5.lt
    have s5 := bb_5.size
    by_cases hlt : i < nb
    · obtain ⟨bl, ol, rfl, hbl2, hcell⟩ := hd.at (by omega)
      obtain ⟨v, hv⟩ : ∃ v, nth xs i = v := ⟨_, rfl⟩
      have hvb := hx.nth (by decide) (by decide) i
      rw [hv] at hvb
      have c0 : wr.cell? ⟨bl, ol + i, none⟩ = some (.int .u8 v) := (bb_5.cell (p := ⟨bl, ol + i, none⟩) hbl2).trans (by rw [hcell i hlt, hv])
      obtain ⟨v, rfl⟩ := Int.eq_ofNat_of_zero_le hvb.1
      have hv8 : v < 256 := by omega
      have hvw : IntKind.u64.wrap (v : Int) = (v : Int) := IntWalk.u64_in _ (by omega)
      have HTK : Hid (xs.take (i + 1) = xs.take i ++ [(v : Int)]) := Lib.hid (by rw [take_next (by rw [HXL.out]; exact hlt), hv])
      have hltw : (i : Int) < (nb : Int) := by omega
      have hblr : bl < wr.heap.size := by omega
      have c0d : wr.drew.cell? ⟨bl, ol + i, none⟩ = some (.int .u8 (v : Int)) := c0
      have ka_5d := (Blk.drew za_5).cell
      clear hcell hv
      go_wp2_with fail
      refine wp_still_tail 6 (by kernel_rfl) (by kernel_rfl) ?_
      simp only [List.take_succ_cons, List.take_zero, List.drop_succ_cons, List.drop_zero]
      repeat still_step
      refine wpStill_nil ?_
      go_wp2_with fail
      have own5d := own5.drew
      have zs_5d := Blk.drew zs_5; have zr_5d := Blk.drew zr_5; have za_5d := Blk.drew za_5; have bb_5d := bb_5.drew
      refine (rnumber_any (w.heap.size + 1 + 1) B2 m2 d2 y v 8 _ (by omega) (by omega) (by omega) (by go_size) own5d).mono ?_
      rintro e w6 ⟨B6, m6, d6, y6, rfl, own6, HY6, fr6, hB6⟩
      have s6 := fr6.size; try simp only [World.size_drew] at s6
      have zs_6 := zs_5d.frm fr6 (own5d.ne_blk zs_5d (by decide)); have zr_6 := zr_5d.frm fr6 (own5d.ne_blk zr_5d (by decide)); have za_6 := za_5d.frm fr6 (own5d.ne_blk za_5d (by decide))
      have ka_6 := za_6.cell; have fa_6 := za_6.frozen; have la_6 := za_6.lt
      have bb_6 : Below w.heap.size w w6 := bb_5d.trans (fr6.below (by go_size) (fun k hk h => absurd (own5d.block k h).1 (by omega)))
      have hne6 : blockOf B6 ≠ some (w1.heap.size) := own6.ne_blk za_6 (by decide)
      have HY7 : Hid (y6 = bs ++ unpack (xs.take (i + 1))) := Lib.hid (by rw [HY6.out, HY.out, HTK.out, Cad.Bit.unpack_append, List.append_assoc]; rfl)
      have hy6 : y6.length ≤ 80 + 8 * (i + 1) := by rw [HY6.out, List.length_append, lowBits_len]; omega
      have s6w := bb_6.size
      go_wp2
      go_roundg (nb - (i + 1))
      case measure => omega
      case rel =>
        refine ⟨i + 1, m6, d6, B6, y6, by omega, by go_num, HY7, hy6, (own6.far' hne6 _).far' hne6 _, ?_, ?_, ?_, ?_, by go_size⟩
        · exact Blk.far2 zs_6 (by omega)
        · exact Blk.far2 zr_6 (by omega)
        · exact Blk.set2 za_6
        · exact Below.far2 bb_6 (by omega)
    · obtain rfl : i = nb := by omega
      obtain ⟨G, HG⟩ : ∃ G, Hid (G = feed n ⟨x0, x1, y0, y1⟩ (bs ++ unpack xs)) := ⟨_, Lib.hid rfl⟩
      have HYF : Hid (y = bs ++ unpack xs) := Lib.hid (by rw [HY.out, List.take_of_length_le (by rw [HXL.out]; omega)])
      have hyc := own5.rowC.2
      have ry0 := own5.rowIn
      clear HY own5
      obtain ⟨w20, hw20⟩ : ∃ w20, w20 = wr := ⟨_, rfl⟩
      subst hw20
      go_wp2_with fail
      have s20 := bb_5.size
      have hym : y.length ≤ 8080 := by omega
      go_loopg [9, 10] n (fun k vo va wr => ∃ (a p0 p1 q0 q1 j dd : Nat) (Bo : Option Addr) (us : List Nat) (zs : List Int), va = .int .i64 (a : Nat) ∧ vo = .slice Bo j dd ∧ a ≤ y.length ∧ us.length + k ≤ n ∧ n ≤ us.length + k ∧ j ≤ us.length ∧ us.length ≤ j ∧ Hid (Dual.Ok ⟨p0, p1, q0, q1⟩) ∧ Hid (G = (feed k ⟨p0, p1, q0, q1⟩ (y.drop a)).app us) ∧ Hid (zs = ints us) ∧ Own wr w20.heap.size 55 .u32 Bo j dd zs ∧ Blk wr (w.heap.size) 40 [.int .i64 (k : Int), .int .i64 (p0 : Int), .int .i64 (p1 : Int), .int .u64 (q0 : Int), .int .u64 (q1 : Int), .slice A m c, .int .i64 (((bs.length : Nat)) : Int)] ∧ Blk wr (w.heap.size + 1) 40 [.int .i64 0, .int .i64 0, .int .i64 0, .int .u64 0, .int .u64 0, .slice none 0 0, .int .i64 0] ∧ Blk wr (w1.heap.size) 24 [.slice B2 m2 d2, .int .i64 ((y.length : Nat) : Int)] ∧ RowIn .u8 wr (w.heap.size + 1 + 1) w20.heap.size B2 m2 (pack y) ∧ Below w.heap.size w wr ∧ w20.heap.size ≤ wr.heap.size)
      case atStart => exact ⟨0, x0, x1, y0, y1, 0, 0, none, [], [], rfl, rfl, by omega, by simp, by simp, Nat.le_refl _, Nat.le_refl _, Lib.hid HF.out.1, Lib.hid (by rw [HG.out, ← HYF.out, Fed.app_nil, List.drop_zero]), Lib.hid rfl, Own.nil _ _ _ _, zs_5, zr_5, za_5, ry0, bb_5, Nat.le_refl _⟩
      case round =>
        obtain ⟨a, p0, p1, q0, q1, j, dd, Bo, us, zs, rfl, rfl, haL, hus, hus2, hjj, hjj2, HPO, HGG, HZ, own8, zs_8, zr_8, za_8, ry_8, bb_8, sw20⟩ := hrel
        clear ks_5 fs_5 ls_5 zs_5
        clear kr_5 fr_5 lr_5 zr_5
        clear ka_5 fa_5 la_5 za_5
        have s8 := bb_8.size
        have ks_8 := zs_8.cell; have fs_8 := zs_8.frozen; have ls_8 := zs_8.lt
        have kr_8 := zr_8.cell; have fr_8 := zr_8.frozen; have lr_8 := zr_8.lt
        have ka_8 := za_8.cell; have fa_8 := za_8.frozen; have la_8 := za_8.lt
        by_cases hgt : 0 < gk
        · obtain ⟨r, hkr⟩ : ∃ r, gk = r + 1 := ⟨gk - 1, by omega⟩
          have HKR := Lib.hid hkr
          clear hkr
          have hgp : (0 : Int) < (gk : Int) := by omega
          cases hrd : readD (y.drop a) ⟨p0, p1, q0, q1⟩ with
          | err er =>
            have hee := readD_err HPO.out hrd
            have hg0 := HGG.out
            rw [HKR.out] at hg0
            have HG0 := Lib.hid hg0
            have HRD : Hid (gdR y a ⟨p0, p1, q0, q1⟩ = (0, 0, (er : Int))) := Lib.hid (by unfold gdR; rw [hrd])
            have HRR := Lib.hid hrd
            clear hrd hg0
            have hg1 := (fun W (hr : Row .u8 W B2 m2 (pack y)) => rdgot_ret B2 m2 d2 y a p0 p1 q0 q1 W hr hyc (by omega) (by omega) HPO.out.1 HPO.out.2.1)
            rw [HRD.out] at hg1
            replace hg1 := Lib.hid hg1
            rcases hee with rfl | ⟨rfl, hl81⟩
            · go_wp2_with fail
              refine (hg1.out _ (by exact RowIn.row (lo := w.heap.size + 1 + 1) (hi := w20.heap.size) (by repeat' (first | (with_reducible assumption) | (with_reducible exact Below.refl _ _) | (with_reducible refine Blk.drewN ?_ _) | (with_reducible refine RowIn.drewN ?_ _) | (with_reducible refine below_drewN ?_ _) | (with_reducible refine Blk.drew ?_) | (with_reducible refine RowIn.drew ?_) | (with_reducible refine Below.drew ?_) | (with_reducible refine Blk.new' ?_ ?_ <;> first | (with_reducible rfl) | (simp; done)) | (with_reducible refine Blk.alloc ?_ _) | (with_reducible refine RowIn.alloc ?_ _) | (with_reducible refine Below.alloc ?_ ?_ _) | (with_reducible apply Blk.set') | (with_reducible apply Blk.far') | (with_reducible refine RowIn.far' ?_ ?_ _) | (with_reducible refine Below.far' ?_ ?_ _) | rfl | omega | go_size)))).mono ?_
              rintro e w10 ⟨rfl, b10⟩
              have own10 := own8.below b10 (Nat.le_refl _)
              have s10 := b10.size
              try simp only [World.size_alloc, World.size_setCell, World.size_drew, size_drewN] at s10
              obtain ⟨zs_10, zr_10, za_10, ry_10, bb_10⟩ : Blk w10 (w.heap.size) 40 [.int .i64 (gk : Int), .int .i64 (p0 : Int), .int .i64 (p1 : Int), .int .u64 (q0 : Int), .int .u64 (q1 : Int), .slice A m c, .int .i64 (((bs.length : Nat)) : Int)] ∧ Blk w10 (w.heap.size + 1) 40 [.int .i64 0, .int .i64 0, .int .i64 0, .int .u64 0, .int .u64 0, .slice none 0 0, .int .i64 0] ∧ Blk w10 (w1.heap.size) 24 [.slice B2 m2 d2, .int .i64 ((y.length : Nat) : Int)] ∧ RowIn .u8 w10 (w.heap.size + 1 + 1) (w20.heap.size) B2 m2 (pack y) ∧ Below w.heap.size w w10 := by
                refine ⟨?_, ?_, ?_, ?_, ?_⟩
                all_goals repeat' (first | (with_reducible assumption) | (with_reducible exact Below.refl _ _) | (with_reducible refine Blk.drewN ?_ _) | (with_reducible refine RowIn.drewN ?_ _) | (with_reducible refine below_drewN ?_ _) | (with_reducible refine Blk.drew ?_) | (with_reducible refine RowIn.drew ?_) | (with_reducible refine Below.drew ?_) | (with_reducible refine Blk.new' ?_ ?_ <;> first | (with_reducible rfl) | (simp; done)) | (with_reducible refine Blk.alloc ?_ _) | (with_reducible refine RowIn.alloc ?_ _) | (with_reducible refine Below.alloc ?_ ?_ _) | (with_reducible apply Blk.set') | (with_reducible apply Blk.far') | (with_reducible refine RowIn.far' ?_ ?_ _) | (with_reducible refine Below.far' ?_ ?_ _) | (with_reducible refine Blk.after ?_ b10) | (with_reducible refine RowIn.belowS ?_ b10) | (with_reducible refine Below.after ?_ b10 ?_) | rfl | omega | go_size)
              clear b10
              have ks_10 := zs_10.cell; have fs_10 := zs_10.frozen; have ls_10 := zs_10.lt
              have kr_10 := zr_10.cell; have fr_10 := zr_10.frozen; have lr_10 := zr_10.lt
              have ka_10 := za_10.cell; have fa_10 := za_10.frozen; have la_10 := za_10.lt
              have hg := feed_waits HG0.out HRR.out
              rw [← HKR.out] at hg
              go_wp2_with fail
              have ly := y.length
              refine (rbetween_any B2 m2 d2 y a y.length _ (by exact RowIn.row (lo := w.heap.size + 1 + 1) (hi := w20.heap.size) (by repeat' (first | (with_reducible assumption) | (with_reducible exact Below.refl _ _) | (with_reducible refine Blk.drewN ?_ _) | (with_reducible refine RowIn.drewN ?_ _) | (with_reducible refine below_drewN ?_ _) | (with_reducible refine Blk.drew ?_) | (with_reducible refine RowIn.drew ?_) | (with_reducible refine Below.drew ?_) | (with_reducible refine Blk.new' ?_ ?_ <;> first | (with_reducible rfl) | (simp; done)) | (with_reducible refine Blk.alloc ?_ _) | (with_reducible refine RowIn.alloc ?_ _) | (with_reducible refine Below.alloc ?_ ?_ _) | (with_reducible apply Blk.set') | (with_reducible apply Blk.far') | (with_reducible refine RowIn.far' ?_ ?_ _) | (with_reducible refine Below.far' ?_ ?_ _) | rfl | omega | go_size))) hyc (by omega) haL (Nat.le_refl _)).mono ?_
              rintro e w12 ⟨Ap, mp, cp, xp, rfl, hcp, rp, HXp, b12⟩
              have HPD : Hid (xp = y.drop a) := Lib.hid (by rw [HXp.out, List.take_of_length_le (by rw [List.length_drop]; omega)])
              have Lp : xp.length ≤ y.length - a ∧ y.length - a ≤ xp.length := by rw [HPD.out, List.length_drop]; omega
              obtain ⟨Lp1, Lp2⟩ := Lp
              clear HXp
              have own12 := (own10).below b12 (Nat.le_refl _)
              have hc12 := own12.rowC.2
              have hneS : blockOf Bo ≠ some (w.heap.size) := fun h => by have := (own12.block _ h).1; omega
              have hneR : blockOf Bo ≠ some (w.heap.size + 1) := fun h => by have := (own12.block _ h).1; omega
              have s12 := b12.size
              try simp only [World.size_alloc, World.size_setCell, World.size_drew, size_drewN] at s12
              obtain ⟨zs_12, zr_12, za_12, ry_12, bb_12⟩ : Blk w12 (w.heap.size) 40 [.int .i64 (gk : Int), .int .i64 (p0 : Int), .int .i64 (p1 : Int), .int .u64 (q0 : Int), .int .u64 (q1 : Int), .slice A m c, .int .i64 (((bs.length : Nat)) : Int)] ∧ Blk w12 (w.heap.size + 1) 40 [.int .i64 0, .int .i64 0, .int .i64 0, .int .u64 0, .int .u64 0, .slice none 0 0, .int .i64 0] ∧ Blk w12 (w1.heap.size) 24 [.slice B2 m2 d2, .int .i64 ((y.length : Nat) : Int)] ∧ RowIn .u8 w12 (w.heap.size + 1 + 1) (w20.heap.size) B2 m2 (pack y) ∧ Below w.heap.size w w12 := by
                refine ⟨?_, ?_, ?_, ?_, ?_⟩
                all_goals repeat' (first | (with_reducible assumption) | (with_reducible exact Below.refl _ _) | (with_reducible refine Blk.drewN ?_ _) | (with_reducible refine RowIn.drewN ?_ _) | (with_reducible refine below_drewN ?_ _) | (with_reducible refine Blk.drew ?_) | (with_reducible refine RowIn.drew ?_) | (with_reducible refine Below.drew ?_) | (with_reducible refine Blk.new' ?_ ?_ <;> first | (with_reducible rfl) | (simp; done)) | (with_reducible refine Blk.alloc ?_ _) | (with_reducible refine RowIn.alloc ?_ _) | (with_reducible refine Below.alloc ?_ ?_ _) | (with_reducible apply Blk.set') | (with_reducible apply Blk.far') | (with_reducible refine RowIn.far' ?_ ?_ _) | (with_reducible refine Below.far' ?_ ?_ _) | (with_reducible refine Blk.after ?_ b12) | (with_reducible refine RowIn.belowS ?_ b12) | (with_reducible refine Below.after ?_ b12 ?_) | rfl | omega | go_size)
              clear zs_10 zr_10 za_10 ry_10 bb_10 ks_10 fs_10 ls_10 kr_10 fr_10 lr_10 ka_10 fa_10 la_10 b12
              have ks_12 := zs_12.cell; have fs_12 := zs_12.frozen; have ls_12 := zs_12.lt
              have kr_12 := zr_12.cell; have fr_12 := zr_12.frozen; have lr_12 := zr_12.lt
              have ka_12 := za_12.cell; have fa_12 := za_12.frozen; have la_12 := za_12.lt
              replace rp := rp.mono (lo' := w20.heap.size) (by omega) (Nat.le_refl _)
              have e1 : ((gk : Int) == 0) = false := beq_eq_false_iff_ne.2 (by omega)
              go_wp2
              all_goals try (go_region; all_goals go_wp2)
              all_goals
                refine bodyPost_ret (v := .tuple #[.agg #[.int .i64 (gk : Int), .int .i64 (p0 : Int), .int .i64 (p1 : Int), .int .u64 (q0 : Int), .int .u64 (q1 : Int), .slice Ap mp cp, .int .i64 (((xp.length : Nat)) : Int)], .slice Bo j dd, .int .i64 0]) (by simp [results, Tryd.results54, go_sem, ks_12, ls_12, fs_12, kr_12, lr_12, fr_12]) rfl ?_
                rw [← HG.out, hg]
                refine ⟨?_, p0, p1, q0, q1, mp, cp, j, dd, Ap, Bo, xp, zs, rfl, Lib.hid rfl, hcp, HPD, ?_, hc12, HZ, ?_⟩
                · repeat' (first | (with_reducible assumption) | (with_reducible exact Below.refl _ _) | (with_reducible refine Blk.drewN ?_ _) | (with_reducible refine RowIn.drewN ?_ _) | (with_reducible refine below_drewN ?_ _) | (with_reducible refine Blk.drew ?_) | (with_reducible refine RowIn.drew ?_) | (with_reducible refine Below.drew ?_) | (with_reducible refine Blk.new' ?_ ?_ <;> first | (with_reducible rfl) | (simp; done)) | (with_reducible refine Blk.alloc ?_ _) | (with_reducible refine RowIn.alloc ?_ _) | (with_reducible refine Below.alloc ?_ ?_ _) | (with_reducible apply Blk.set') | (with_reducible apply Blk.far') | (with_reducible refine RowIn.far' ?_ ?_ _) | (with_reducible refine Below.far' ?_ ?_ _) | rfl | omega | go_size)
                · refine RowIn.mono (lo := w20.heap.size) (hi := w12.heap.size) ?_ (by omega) (by go_size)
                  repeat' (first | (with_reducible assumption) | (with_reducible exact Below.refl _ _) | (with_reducible refine Blk.drewN ?_ _) | (with_reducible refine RowIn.drewN ?_ _) | (with_reducible refine below_drewN ?_ _) | (with_reducible refine Blk.drew ?_) | (with_reducible refine RowIn.drew ?_) | (with_reducible refine Below.drew ?_) | (with_reducible refine Blk.new' ?_ ?_ <;> first | (with_reducible rfl) | (simp; done)) | (with_reducible refine Blk.alloc ?_ _) | (with_reducible refine RowIn.alloc ?_ _) | (with_reducible refine Below.alloc ?_ ?_ _) | (with_reducible apply Blk.set') | (with_reducible apply Blk.far') | (with_reducible refine RowIn.far' ?_ ?_ _) | (with_reducible refine Below.far' ?_ ?_ _) | rfl | omega | go_size)
                · refine RowIn.mono (lo := w20.heap.size) (hi := w12.heap.size) ?_ (by omega) (by go_size)
                  have hro := own12.rowIn
                  repeat' (first | (with_reducible assumption) | (with_reducible exact Below.refl _ _) | (with_reducible refine Blk.drewN ?_ _) | (with_reducible refine RowIn.drewN ?_ _) | (with_reducible refine below_drewN ?_ _) | (with_reducible refine Blk.drew ?_) | (with_reducible refine RowIn.drew ?_) | (with_reducible refine Below.drew ?_) | (with_reducible refine Blk.new' ?_ ?_ <;> first | (with_reducible rfl) | (simp; done)) | (with_reducible refine Blk.alloc ?_ _) | (with_reducible refine RowIn.alloc ?_ _) | (with_reducible refine Below.alloc ?_ ?_ _) | (with_reducible apply Blk.set') | (with_reducible apply Blk.far') | (with_reducible refine RowIn.far' ?_ ?_ _) | (with_reducible refine Below.far' ?_ ?_ _) | rfl | omega | go_size)
            · go_wp2_with fail
              refine (hg1.out _ (by exact RowIn.row (lo := w.heap.size + 1 + 1) (hi := w20.heap.size) (by repeat' (first | (with_reducible assumption) | (with_reducible exact Below.refl _ _) | (with_reducible refine Blk.drewN ?_ _) | (with_reducible refine RowIn.drewN ?_ _) | (with_reducible refine below_drewN ?_ _) | (with_reducible refine Blk.drew ?_) | (with_reducible refine RowIn.drew ?_) | (with_reducible refine Below.drew ?_) | (with_reducible refine Blk.new' ?_ ?_ <;> first | (with_reducible rfl) | (simp; done)) | (with_reducible refine Blk.alloc ?_ _) | (with_reducible refine RowIn.alloc ?_ _) | (with_reducible refine Below.alloc ?_ ?_ _) | (with_reducible apply Blk.set') | (with_reducible apply Blk.far') | (with_reducible refine RowIn.far' ?_ ?_ _) | (with_reducible refine Below.far' ?_ ?_ _) | rfl | omega | go_size)))).mono ?_
              rintro e w10 ⟨rfl, b10⟩
              have own10 := own8.below b10 (Nat.le_refl _)
              have s10 := b10.size
              try simp only [World.size_alloc, World.size_setCell, World.size_drew, size_drewN] at s10
              obtain ⟨zs_10, zr_10, za_10, ry_10, bb_10⟩ : Blk w10 (w.heap.size) 40 [.int .i64 (gk : Int), .int .i64 (p0 : Int), .int .i64 (p1 : Int), .int .u64 (q0 : Int), .int .u64 (q1 : Int), .slice A m c, .int .i64 (((bs.length : Nat)) : Int)] ∧ Blk w10 (w.heap.size + 1) 40 [.int .i64 0, .int .i64 0, .int .i64 0, .int .u64 0, .int .u64 0, .slice none 0 0, .int .i64 0] ∧ Blk w10 (w1.heap.size) 24 [.slice B2 m2 d2, .int .i64 ((y.length : Nat) : Int)] ∧ RowIn .u8 w10 (w.heap.size + 1 + 1) (w20.heap.size) B2 m2 (pack y) ∧ Below w.heap.size w w10 := by
                refine ⟨?_, ?_, ?_, ?_, ?_⟩
                all_goals repeat' (first | (with_reducible assumption) | (with_reducible exact Below.refl _ _) | (with_reducible refine Blk.drewN ?_ _) | (with_reducible refine RowIn.drewN ?_ _) | (with_reducible refine below_drewN ?_ _) | (with_reducible refine Blk.drew ?_) | (with_reducible refine RowIn.drew ?_) | (with_reducible refine Below.drew ?_) | (with_reducible refine Blk.new' ?_ ?_ <;> first | (with_reducible rfl) | (simp; done)) | (with_reducible refine Blk.alloc ?_ _) | (with_reducible refine RowIn.alloc ?_ _) | (with_reducible refine Below.alloc ?_ ?_ _) | (with_reducible apply Blk.set') | (with_reducible apply Blk.far') | (with_reducible refine RowIn.far' ?_ ?_ _) | (with_reducible refine Below.far' ?_ ?_ _) | (with_reducible refine Blk.after ?_ b10) | (with_reducible refine RowIn.belowS ?_ b10) | (with_reducible refine Below.after ?_ b10 ?_) | rfl | omega | go_size)
              clear b10
              have ks_10 := zs_10.cell; have fs_10 := zs_10.frozen; have ls_10 := zs_10.lt
              have kr_10 := zr_10.cell; have fr_10 := zr_10.frozen; have lr_10 := zr_10.lt
              have ka_10 := za_10.cell; have fa_10 := za_10.frozen; have la_10 := za_10.lt
              have hg := feed_stop HG0.out HRR.out (by omega)
              go_wp2
              refine bodyPost_ret (v := .tuple #[.agg #[.int .i64 0, .int .i64 0, .int .i64 0, .int .u64 0, .int .u64 0, .slice none 0 0, .int .i64 0], .slice none 0 0, .int .i64 12]) (by simp [results, Tryd.results54, go_sem, kr_10, lr_10, fr_10]) rfl ?_
              rw [← HG.out, hg]
              refine gfeed_err (er := 12) ⟨rfl, ?_⟩
              repeat' (first | (with_reducible assumption) | (with_reducible exact Below.refl _ _) | (with_reducible refine Blk.drewN ?_ _) | (with_reducible refine RowIn.drewN ?_ _) | (with_reducible refine below_drewN ?_ _) | (with_reducible refine Blk.drew ?_) | (with_reducible refine RowIn.drew ?_) | (with_reducible refine Below.drew ?_) | (with_reducible refine Blk.new' ?_ ?_ <;> first | (with_reducible rfl) | (simp; done)) | (with_reducible refine Blk.alloc ?_ _) | (with_reducible refine RowIn.alloc ?_ _) | (with_reducible refine Below.alloc ?_ ?_ _) | (with_reducible apply Blk.set') | (with_reducible apply Blk.far') | (with_reducible refine RowIn.far' ?_ ?_ _) | (with_reducible refine Below.far' ?_ ?_ _) | rfl | omega | go_size)
          | ok v q =>
            have hv32 := readD_lt HPO.out hrd
            have hkl := (readD_len HPO.out hrd).2.2
            rw [List.length_drop] at hkl
            have hg0 := HGG.out
            rw [HKR.out] at hg0
            have hg := feed_step hg0 hrd
            obtain ⟨z, hz⟩ : ∃ z, z = a + q := ⟨_, rfl⟩
            rw [← hz] at hg
            have HG2 := Lib.hid hg
            have HRD : Hid (gdR y a ⟨p0, p1, q0, q1⟩ = ((v : Int), (z : Int), 0)) := Lib.hid (by unfold gdR; rw [hrd]; dsimp only; rw [hz])
            have hzl : z ≤ y.length := by omega
            have hri2 : ((gk : Int) - 1) = (r : Int) := by have := HKR.out; omega
            have hg1 := (fun W (hr : Row .u8 W B2 m2 (pack y)) => rdgot_ret B2 m2 d2 y a p0 p1 q0 q1 W hr hyc (by omega) (by omega) HPO.out.1 HPO.out.2.1)
            rw [HRD.out] at hg1
            replace hg1 := Lib.hid hg1
            clear hg hg0 hrd HGG hz
            go_wp2_with fail
            refine (hg1.out _ (by exact RowIn.row (lo := w.heap.size + 1 + 1) (hi := w20.heap.size) (by repeat' (first | (with_reducible assumption) | (with_reducible exact Below.refl _ _) | (with_reducible refine Blk.drewN ?_ _) | (with_reducible refine RowIn.drewN ?_ _) | (with_reducible refine below_drewN ?_ _) | (with_reducible refine Blk.drew ?_) | (with_reducible refine RowIn.drew ?_) | (with_reducible refine Below.drew ?_) | (with_reducible refine Blk.new' ?_ ?_ <;> first | (with_reducible rfl) | (simp; done)) | (with_reducible refine Blk.alloc ?_ _) | (with_reducible refine RowIn.alloc ?_ _) | (with_reducible refine Below.alloc ?_ ?_ _) | (with_reducible apply Blk.set') | (with_reducible apply Blk.far') | (with_reducible refine RowIn.far' ?_ ?_ _) | (with_reducible refine Below.far' ?_ ?_ _) | rfl | omega | go_size)))).mono ?_
            rintro e w10 ⟨rfl, b10⟩
            have own10 := own8.below b10 (Nat.le_refl _)
            have s10 := b10.size
            try simp only [World.size_alloc, World.size_setCell, World.size_drew, size_drewN] at s10
            obtain ⟨zs_10, zr_10, za_10, ry_10, bb_10⟩ : Blk w10 (w.heap.size) 40 [.int .i64 (gk : Int), .int .i64 (p0 : Int), .int .i64 (p1 : Int), .int .u64 (q0 : Int), .int .u64 (q1 : Int), .slice A m c, .int .i64 (((bs.length : Nat)) : Int)] ∧ Blk w10 (w.heap.size + 1) 40 [.int .i64 0, .int .i64 0, .int .i64 0, .int .u64 0, .int .u64 0, .slice none 0 0, .int .i64 0] ∧ Blk w10 (w1.heap.size) 24 [.slice B2 m2 d2, .int .i64 ((y.length : Nat) : Int)] ∧ RowIn .u8 w10 (w.heap.size + 1 + 1) (w20.heap.size) B2 m2 (pack y) ∧ Below w.heap.size w w10 := by
              refine ⟨?_, ?_, ?_, ?_, ?_⟩
              all_goals repeat' (first | (with_reducible assumption) | (with_reducible exact Below.refl _ _) | (with_reducible refine Blk.drewN ?_ _) | (with_reducible refine RowIn.drewN ?_ _) | (with_reducible refine below_drewN ?_ _) | (with_reducible refine Blk.drew ?_) | (with_reducible refine RowIn.drew ?_) | (with_reducible refine Below.drew ?_) | (with_reducible refine Blk.new' ?_ ?_ <;> first | (with_reducible rfl) | (simp; done)) | (with_reducible refine Blk.alloc ?_ _) | (with_reducible refine RowIn.alloc ?_ _) | (with_reducible refine Below.alloc ?_ ?_ _) | (with_reducible apply Blk.set') | (with_reducible apply Blk.far') | (with_reducible refine RowIn.far' ?_ ?_ _) | (with_reducible refine Below.far' ?_ ?_ _) | (with_reducible refine Blk.after ?_ b10) | (with_reducible refine RowIn.belowS ?_ b10) | (with_reducible refine Below.after ?_ b10 ?_) | rfl | omega | go_size)
            clear b10
            have ks_10 := zs_10.cell; have fs_10 := zs_10.frozen; have ls_10 := zs_10.lt
            have kr_10 := zr_10.cell; have fr_10 := zr_10.frozen; have lr_10 := zr_10.lt
            have ka_10 := za_10.cell; have fa_10 := za_10.frozen; have la_10 := za_10.lt
            have s10w : w20.heap.size ≤ w10.heap.size := by omega
            go_wp2_with (at_builtin; refine wpList_app _ u32E rfl _ _ rfl w20.heap.size _ _ _ _ rfl (by exact own10.alloc _) _ _ _ [(v : Int)] rfl (by exact row_one' (by simp)) (by omega) (by simp; omega) ?_)
            intro B11 d11 w11 own11 hg11 hat11
            have b11 : Below w20.heap.size w10 w11 := ((Below.refl _ _).alloc s10w _).grown hg11 (by simp; omega) (fun g e => (own10.block g e).1)
            have zs_11 := zs_10.below b11 (by omega)
            have zr_11 := zr_10.below b11 (by omega)
            have za_11 := za_10.below b11 (by omega)
            have ry_11 := ry_10.below b11 (Nat.le_refl _)
            have bb_11 : Below w.heap.size w w11 := bb_10.trans (b11.mono (by omega))
            have HZ2 : Hid (zs ++ [(v : Int)] = ints (us ++ [v])) := Lib.hid (by rw [ints_next, HZ.out])
            have s11 := bb_11.size
            have s11w : w20.heap.size ≤ w11.heap.size := by have := own11.mono (Nat.le_refl _); have h := hg11.size; simp at h; omega
            have ks_11 := zs_11.cell; have fs_11 := zs_11.frozen; have ls_11 := zs_11.lt
            have kr_11 := zr_11.cell; have fr_11 := zr_11.frozen; have lr_11 := zr_11.lt
            have ka_11 := za_11.cell; have fa_11 := za_11.frozen; have la_11 := za_11.lt
            clear hat11 hg11 own10 own8 zs_10 zr_10 za_10 ry_10 bb_10 ks_10 fs_10 ls_10 kr_10 fr_10 lr_10 ka_10 fa_10 la_10
            go_wp2_with fail
            refine (rdlearnt_ok p0 p1 q0 q1 v _ HPO.out hv32).mono ?_
            rintro e w13 ⟨u0, u1, v0, v1, rfl, HU, b13⟩
            have own13 := own11.below b13 (Nat.le_refl _)
            have zs_13 := zs_11.after b13
            have zr_13 := zr_11.after b13
            have za_13 := za_11.after b13
            have ry_13 := ry_11.belowS b13
            have bb_13 := Below.after bb_11 b13 s11
            have s13 := b13.size
            have ks_13 := zs_13.cell; have fs_13 := zs_13.frozen; have ls_13 := zs_13.lt
            have kr_13 := zr_13.cell; have fr_13 := zr_13.frozen; have lr_13 := zr_13.lt
            have ka_13 := za_13.cell; have fa_13 := za_13.frozen; have la_13 := za_13.lt
            have HPO2 : Hid (Dual.Ok ⟨u0, u1, v0, v1⟩) := Lib.hid (by rw [HU.out]; exact learn_ok HPO.out hv32)
            rw [← HU.out] at HG2
            clear b11 b13 own11 zs_11 ks_11 fs_11 ls_11 zr_11 kr_11 fr_11 lr_11 za_11 ka_11 fa_11 la_11 ry_11 bb_11
            go_wp2
            go_roundg r
            case measure => have := HKR.out; omega
            case rel =>
              have hneS : blockOf B11 ≠ some (w.heap.size) := fun h => by have := (own13.block _ h).1; omega
              refine ⟨z, u0, u1, v0, v1, j + 1, d11, B11, us ++ [v], zs ++ [(v : Int)], rfl, rfl, hzl, by simp; have := HKR.out; omega, by simp; have := HKR.out; omega, by simp; omega, by simp; omega, HPO2, HG2, HZ2, ?_, ?_, ?_, ?_, ?_, ?_, by go_size⟩
              · repeat' (first | (with_reducible exact own13) | (with_reducible refine Own.far' ?_ hneS _) | (with_reducible refine Own.drew ?_))
              · repeat' (first | (with_reducible assumption) | (with_reducible exact Below.refl _ _) | (with_reducible refine Blk.drewN ?_ _) | (with_reducible refine RowIn.drewN ?_ _) | (with_reducible refine below_drewN ?_ _) | (with_reducible refine Blk.drew ?_) | (with_reducible refine RowIn.drew ?_) | (with_reducible refine Below.drew ?_) | (with_reducible refine Blk.new' ?_ ?_ <;> first | (with_reducible rfl) | (simp; done)) | (with_reducible refine Blk.alloc ?_ _) | (with_reducible refine RowIn.alloc ?_ _) | (with_reducible refine Below.alloc ?_ ?_ _) | (with_reducible apply Blk.set') | (with_reducible apply Blk.far') | (with_reducible refine RowIn.far' ?_ ?_ _) | (with_reducible refine Below.far' ?_ ?_ _) | rfl | omega | go_size)
              · repeat' (first | (with_reducible assumption) | (with_reducible exact Below.refl _ _) | (with_reducible refine Blk.drewN ?_ _) | (with_reducible refine RowIn.drewN ?_ _) | (with_reducible refine below_drewN ?_ _) | (with_reducible refine Blk.drew ?_) | (with_reducible refine RowIn.drew ?_) | (with_reducible refine Below.drew ?_) | (with_reducible refine Blk.new' ?_ ?_ <;> first | (with_reducible rfl) | (simp; done)) | (with_reducible refine Blk.alloc ?_ _) | (with_reducible refine RowIn.alloc ?_ _) | (with_reducible refine Below.alloc ?_ ?_ _) | (with_reducible apply Blk.set') | (with_reducible apply Blk.far') | (with_reducible refine RowIn.far' ?_ ?_ _) | (with_reducible refine Below.far' ?_ ?_ _) | rfl | omega | go_size)
              · repeat' (first | (with_reducible assumption) | (with_reducible exact Below.refl _ _) | (with_reducible refine Blk.drewN ?_ _) | (with_reducible refine RowIn.drewN ?_ _) | (with_reducible refine below_drewN ?_ _) | (with_reducible refine Blk.drew ?_) | (with_reducible refine RowIn.drew ?_) | (with_reducible refine Below.drew ?_) | (with_reducible refine Blk.new' ?_ ?_ <;> first | (with_reducible rfl) | (simp; done)) | (with_reducible refine Blk.alloc ?_ _) | (with_reducible refine RowIn.alloc ?_ _) | (with_reducible refine Below.alloc ?_ ?_ _) | (with_reducible apply Blk.set') | (with_reducible apply Blk.far') | (with_reducible refine RowIn.far' ?_ ?_ _) | (with_reducible refine Below.far' ?_ ?_ _) | rfl | omega | go_size)
              · repeat' (first | (with_reducible assumption) | (with_reducible exact Below.refl _ _) | (with_reducible refine Blk.drewN ?_ _) | (with_reducible refine RowIn.drewN ?_ _) | (with_reducible refine below_drewN ?_ _) | (with_reducible refine Blk.drew ?_) | (with_reducible refine RowIn.drew ?_) | (with_reducible refine Below.drew ?_) | (with_reducible refine Blk.new' ?_ ?_ <;> first | (with_reducible rfl) | (simp; done)) | (with_reducible refine Blk.alloc ?_ _) | (with_reducible refine RowIn.alloc ?_ _) | (with_reducible refine Below.alloc ?_ ?_ _) | (with_reducible apply Blk.set') | (with_reducible apply Blk.far') | (with_reducible refine RowIn.far' ?_ ?_ _) | (with_reducible refine Below.far' ?_ ?_ _) | rfl | omega | go_size)
              · repeat' (first | (with_reducible assumption) | (with_reducible exact Below.refl _ _) | (with_reducible refine Blk.drewN ?_ _) | (with_reducible refine RowIn.drewN ?_ _) | (with_reducible refine below_drewN ?_ _) | (with_reducible refine Blk.drew ?_) | (with_reducible refine RowIn.drew ?_) | (with_reducible refine Below.drew ?_) | (with_reducible refine Blk.new' ?_ ?_ <;> first | (with_reducible rfl) | (simp; done)) | (with_reducible refine Blk.alloc ?_ _) | (with_reducible refine RowIn.alloc ?_ _) | (with_reducible refine Below.alloc ?_ ?_ _) | (with_reducible apply Blk.set') | (with_reducible apply Blk.far') | (with_reducible refine RowIn.far' ?_ ?_ _) | (with_reducible refine Below.far' ?_ ?_ _) | rfl | omega | go_size)
        · obtain rfl : gk = 0 := by omega
          go_wp2_with fail
          have ly := y.length
          refine (rbetween_any B2 m2 d2 y a y.length _ (by exact RowIn.row (lo := w.heap.size + 1 + 1) (hi := w20.heap.size) (by repeat' (first | (with_reducible assumption) | (with_reducible exact Below.refl _ _) | (with_reducible refine Blk.drewN ?_ _) | (with_reducible refine RowIn.drewN ?_ _) | (with_reducible refine below_drewN ?_ _) | (with_reducible refine Blk.drew ?_) | (with_reducible refine RowIn.drew ?_) | (with_reducible refine Below.drew ?_) | (with_reducible refine Blk.new' ?_ ?_ <;> first | (with_reducible rfl) | (simp; done)) | (with_reducible refine Blk.alloc ?_ _) | (with_reducible refine RowIn.alloc ?_ _) | (with_reducible refine Below.alloc ?_ ?_ _) | (with_reducible apply Blk.set') | (with_reducible apply Blk.far') | (with_reducible refine RowIn.far' ?_ ?_ _) | (with_reducible refine Below.far' ?_ ?_ _) | rfl | omega | go_size))) hyc (by omega) haL (Nat.le_refl _)).mono ?_
          rintro e w12 ⟨Ap, mp, cp, xp, rfl, hcp, rp, HXp, b12⟩
          have HPD : Hid (xp = y.drop a) := Lib.hid (by rw [HXp.out, List.take_of_length_le (by rw [List.length_drop]; omega)])
          have Lp : xp.length ≤ y.length - a ∧ y.length - a ≤ xp.length := by rw [HPD.out, List.length_drop]; omega
          obtain ⟨Lp1, Lp2⟩ := Lp
          clear HXp
          have own12 := (own8).below b12 (Nat.le_refl _)
          have hc12 := own12.rowC.2
          have hneS : blockOf Bo ≠ some (w.heap.size) := fun h => by have := (own12.block _ h).1; omega
          have hneR : blockOf Bo ≠ some (w.heap.size + 1) := fun h => by have := (own12.block _ h).1; omega
          have s12 := b12.size
          try simp only [World.size_alloc, World.size_setCell, World.size_drew, size_drewN] at s12
          obtain ⟨zs_12, zr_12, za_12, ry_12, bb_12⟩ : Blk w12 (w.heap.size) 40 [.int .i64 (0 : Int), .int .i64 (p0 : Int), .int .i64 (p1 : Int), .int .u64 (q0 : Int), .int .u64 (q1 : Int), .slice A m c, .int .i64 (((bs.length : Nat)) : Int)] ∧ Blk w12 (w.heap.size + 1) 40 [.int .i64 0, .int .i64 0, .int .i64 0, .int .u64 0, .int .u64 0, .slice none 0 0, .int .i64 0] ∧ Blk w12 (w1.heap.size) 24 [.slice B2 m2 d2, .int .i64 ((y.length : Nat) : Int)] ∧ RowIn .u8 w12 (w.heap.size + 1 + 1) (w20.heap.size) B2 m2 (pack y) ∧ Below w.heap.size w w12 := by
            refine ⟨?_, ?_, ?_, ?_, ?_⟩
            all_goals repeat' (first | (with_reducible assumption) | (with_reducible exact Below.refl _ _) | (with_reducible refine Blk.drewN ?_ _) | (with_reducible refine RowIn.drewN ?_ _) | (with_reducible refine below_drewN ?_ _) | (with_reducible refine Blk.drew ?_) | (with_reducible refine RowIn.drew ?_) | (with_reducible refine Below.drew ?_) | (with_reducible refine Blk.new' ?_ ?_ <;> first | (with_reducible rfl) | (simp; done)) | (with_reducible refine Blk.alloc ?_ _) | (with_reducible refine RowIn.alloc ?_ _) | (with_reducible refine Below.alloc ?_ ?_ _) | (with_reducible apply Blk.set') | (with_reducible apply Blk.far') | (with_reducible refine RowIn.far' ?_ ?_ _) | (with_reducible refine Below.far' ?_ ?_ _) | (with_reducible refine Blk.after ?_ b12) | (with_reducible refine RowIn.belowS ?_ b12) | (with_reducible refine Below.after ?_ b12 ?_) | rfl | omega | go_size)
          clear b12
          have ks_12 := zs_12.cell; have fs_12 := zs_12.frozen; have ls_12 := zs_12.lt
          have kr_12 := zr_12.cell; have fr_12 := zr_12.frozen; have lr_12 := zr_12.lt
          have ka_12 := za_12.cell; have fa_12 := za_12.frozen; have la_12 := za_12.lt
          replace rp := rp.mono (lo' := w20.heap.size) (by omega) (Nat.le_refl _)
          by_cases h8 : 8 ≤ y.length - a
          · have hg := feed_more HGG.out h8
            have e2 : decide (8 ≤ ((xp.length : Nat) : Int)) = true := decide_eq_true (by omega)
            go_wp2
            refine bodyPost_ret (v := .tuple #[.agg #[.int .i64 0, .int .i64 0, .int .i64 0, .int .u64 0, .int .u64 0, .slice none 0 0, .int .i64 0], .slice none 0 0, .int .i64 38]) (by simp [results, Tryd.results54, go_sem, kr_12, lr_12, fr_12]) rfl ?_
            rw [← HG.out, hg]
            refine gfeed_err (er := 38) ⟨rfl, ?_⟩
            repeat' (first | (with_reducible assumption) | (with_reducible exact Below.refl _ _) | (with_reducible refine Blk.drewN ?_ _) | (with_reducible refine RowIn.drewN ?_ _) | (with_reducible refine below_drewN ?_ _) | (with_reducible refine Blk.drew ?_) | (with_reducible refine RowIn.drew ?_) | (with_reducible refine Below.drew ?_) | (with_reducible refine Blk.new' ?_ ?_ <;> first | (with_reducible rfl) | (simp; done)) | (with_reducible refine Blk.alloc ?_ _) | (with_reducible refine RowIn.alloc ?_ _) | (with_reducible refine Below.alloc ?_ ?_ _) | (with_reducible apply Blk.set') | (with_reducible apply Blk.far') | (with_reducible refine RowIn.far' ?_ ?_ _) | (with_reducible refine Below.far' ?_ ?_ _) | rfl | omega | go_size)
          · have hg := feed_done HGG.out (by omega)
            have e2 : decide (8 ≤ ((xp.length : Nat) : Int)) = false := decide_eq_false (by omega)
            go_wp2
            all_goals try (go_region; all_goals go_wp2)
            all_goals
              refine bodyPost_ret (v := .tuple #[.agg #[.int .i64 (0 : Int), .int .i64 (p0 : Int), .int .i64 (p1 : Int), .int .u64 (q0 : Int), .int .u64 (q1 : Int), .slice Ap mp cp, .int .i64 (((xp.length : Nat)) : Int)], .slice Bo j dd, .int .i64 0]) (by simp [results, Tryd.results54, go_sem, ks_12, ls_12, fs_12, kr_12, lr_12, fr_12]) rfl ?_
              rw [← HG.out, hg]
              refine ⟨?_, p0, p1, q0, q1, mp, cp, j, dd, Ap, Bo, xp, zs, rfl, Lib.hid rfl, hcp, HPD, ?_, hc12, HZ, ?_⟩
              · repeat' (first | (with_reducible assumption) | (with_reducible exact Below.refl _ _) | (with_reducible refine Blk.drewN ?_ _) | (with_reducible refine RowIn.drewN ?_ _) | (with_reducible refine below_drewN ?_ _) | (with_reducible refine Blk.drew ?_) | (with_reducible refine RowIn.drew ?_) | (with_reducible refine Below.drew ?_) | (with_reducible refine Blk.new' ?_ ?_ <;> first | (with_reducible rfl) | (simp; done)) | (with_reducible refine Blk.alloc ?_ _) | (with_reducible refine RowIn.alloc ?_ _) | (with_reducible refine Below.alloc ?_ ?_ _) | (with_reducible apply Blk.set') | (with_reducible apply Blk.far') | (with_reducible refine RowIn.far' ?_ ?_ _) | (with_reducible refine Below.far' ?_ ?_ _) | rfl | omega | go_size)
              · refine RowIn.mono (lo := w20.heap.size) (hi := w12.heap.size) ?_ (by omega) (by go_size)
                repeat' (first | (with_reducible assumption) | (with_reducible exact Below.refl _ _) | (with_reducible refine Blk.drewN ?_ _) | (with_reducible refine RowIn.drewN ?_ _) | (with_reducible refine below_drewN ?_ _) | (with_reducible refine Blk.drew ?_) | (with_reducible refine RowIn.drew ?_) | (with_reducible refine Below.drew ?_) | (with_reducible refine Blk.new' ?_ ?_ <;> first | (with_reducible rfl) | (simp; done)) | (with_reducible refine Blk.alloc ?_ _) | (with_reducible refine RowIn.alloc ?_ _) | (with_reducible refine Below.alloc ?_ ?_ _) | (with_reducible apply Blk.set') | (with_reducible apply Blk.far') | (with_reducible refine RowIn.far' ?_ ?_ _) | (with_reducible refine Below.far' ?_ ?_ _) | rfl | omega | go_size)
              · refine RowIn.mono (lo := w20.heap.size) (hi := w12.heap.size) ?_ (by omega) (by go_size)
                have hro := own12.rowIn
                repeat' (first | (with_reducible assumption) | (with_reducible exact Below.refl _ _) | (with_reducible refine Blk.drewN ?_ _) | (with_reducible refine RowIn.drewN ?_ _) | (with_reducible refine below_drewN ?_ _) | (with_reducible refine Blk.drew ?_) | (with_reducible refine RowIn.drew ?_) | (with_reducible refine Below.drew ?_) | (with_reducible refine Blk.new' ?_ ?_ <;> first | (with_reducible rfl) | (simp; done)) | (with_reducible refine Blk.alloc ?_ _) | (with_reducible refine RowIn.alloc ?_ _) | (with_reducible refine Below.alloc ?_ ?_ _) | (with_reducible apply Blk.set') | (with_reducible apply Blk.far') | (with_reducible refine RowIn.far' ?_ ?_ _) | (with_reducible refine Below.far' ?_ ?_ _) | rfl | omega | go_size)


end Go.Proofs.YtppilidcjlnmoaaDoor
/-
  Contracts of the reference of chapter 10: Feed, Same, Great.
-/
namespace Go.Proofs.YtppilidcjlnmoaaDoor
open Go.RowKit Cad Cad.Bit Cad.Code
set_option linter.unusedVariables false
set_option linter.unusedSimpArgs false


set_option maxRecDepth 100000 in
set_option maxHeartbeats 1000000 in
theorem rrfeed_none (L p0 p1 q0 q1 N : Int) (m c : Nat) (A : Option Addr) (xs : List Int) (B : Option Addr) (nb cb : Nat) (w : World) (hL : -9223372036854775808 ≤ L ∧ L ≤ 9223372036854775807) (h2 : 0 ≤ q0) (h3 : 0 ≤ q1) (ha : Row .u8 w A m xs) (hb : Within 0 255 xs) (hc : m ≤ c ∧ c ≤ 9223372036854775807) (hs : ¬ RS L p0 p1 q0 q1 xs N) :
    Calls Tryd.prog 25 #[.agg #[.int .i64 (L : Int), .int .i64 (p0 : Int), .int .i64 (p1 : Int), .int .u64 (q0 : Int), .int .u64 (q1 : Int), .slice A m c, .int .i64 (N : Int)], .slice B nb cb] w (RetF w (.err 8)) := by
  have hri := ha.rowIn
  have HN := Lib.hid hs
  clear hs
  go_enter Tryd.func25, Tryd.ntmps25
  go_wp2_with fail
  refine (rrc_any L p0 p1 q0 q1 N m c A xs _ hL h2 h3 (by exact RowIn.row (lo := 0) (hi := w.heap.size) (by repeat' (first | (with_reducible assumption) | (with_reducible exact Below.refl _ _) | (with_reducible refine Blk.drewN ?_ _) | (with_reducible refine RowIn.drewN ?_ _) | (with_reducible refine below_drewN ?_ _) | (with_reducible refine Blk.drew ?_) | (with_reducible refine RowIn.drew ?_) | (with_reducible refine Below.drew ?_) | (with_reducible refine Blk.new' ?_ ?_ <;> first | (with_reducible rfl) | (simp; done)) | (with_reducible refine Blk.alloc ?_ _) | (with_reducible refine RowIn.alloc ?_ _) | (with_reducible refine Below.alloc ?_ ?_ _) | (with_reducible apply Blk.set') | (with_reducible apply Blk.far') | (with_reducible refine RowIn.far' ?_ ?_ _) | (with_reducible refine Below.far' ?_ ?_ _) | rfl | omega | go_size))) hb hc HN.out).mono ?_
  rintro e w1 ⟨rfl, b1⟩
  have s1 := b1.size
  try simp only [World.size_alloc, World.size_setCell, World.size_drew, size_drewN] at s1
  obtain ⟨zs_1, zr_1, ra_1, bb_1⟩ : Blk w1 (w.heap.size) 40 [.int .i64 (L : Int), .int .i64 (p0 : Int), .int .i64 (p1 : Int), .int .u64 (q0 : Int), .int .u64 (q1 : Int), .slice A m c, .int .i64 (N : Int)] ∧ Blk w1 (w.heap.size + 1) 40 [.int .i64 0, .int .i64 0, .int .i64 0, .int .u64 0, .int .u64 0, .slice none 0 0, .int .i64 0] ∧ RowIn .u8 w1 (0) (w.heap.size) A m xs ∧ Below w.heap.size w w1 := by
    refine ⟨?_, ?_, ?_, ?_⟩
    all_goals repeat' (first | (with_reducible assumption) | (with_reducible exact Below.refl _ _) | (with_reducible refine Blk.drewN ?_ _) | (with_reducible refine RowIn.drewN ?_ _) | (with_reducible refine below_drewN ?_ _) | (with_reducible refine Blk.drew ?_) | (with_reducible refine RowIn.drew ?_) | (with_reducible refine Below.drew ?_) | (with_reducible refine Blk.new' ?_ ?_ <;> first | (with_reducible rfl) | (simp; done)) | (with_reducible refine Blk.alloc ?_ _) | (with_reducible refine RowIn.alloc ?_ _) | (with_reducible refine Below.alloc ?_ ?_ _) | (with_reducible apply Blk.set') | (with_reducible apply Blk.far') | (with_reducible refine RowIn.far' ?_ ?_ _) | (with_reducible refine Below.far' ?_ ?_ _) | (with_reducible refine Blk.after ?_ b1) | (with_reducible refine RowIn.belowS ?_ b1) | (with_reducible refine Below.after ?_ b1 ?_) | rfl | omega | go_size)
  clear b1
  have ks_1 := zs_1.cell; have fs_1 := zs_1.frozen; have ls_1 := zs_1.lt
  have kr_1 := zr_1.cell; have fr_1 := zr_1.frozen; have lr_1 := zr_1.lt
  go_wp2
  refine bodyPost_ret (v := .tuple #[.agg #[.int .i64 0, .int .i64 0, .int .i64 0, .int .u64 0, .int .u64 0, .slice none 0 0, .int .i64 0], .slice none 0 0, .int .i64 8]) (by simp [results, Tryd.results25, go_sem, kr_1, lr_1, fr_1]) rfl ?_
  refine gfeed_err (er := 8) ⟨rfl, ?_⟩
  repeat' (first | (with_reducible assumption) | (with_reducible exact Below.refl _ _) | (with_reducible refine Blk.drewN ?_ _) | (with_reducible refine RowIn.drewN ?_ _) | (with_reducible refine below_drewN ?_ _) | (with_reducible refine Blk.drew ?_) | (with_reducible refine RowIn.drew ?_) | (with_reducible refine Below.drew ?_) | (with_reducible refine Blk.new' ?_ ?_ <;> first | (with_reducible rfl) | (simp; done)) | (with_reducible refine Blk.alloc ?_ _) | (with_reducible refine RowIn.alloc ?_ _) | (with_reducible refine Below.alloc ?_ ?_ _) | (with_reducible apply Blk.set') | (with_reducible apply Blk.far') | (with_reducible refine RowIn.far' ?_ ?_ _) | (with_reducible refine Below.far' ?_ ?_ _) | rfl | omega | go_size)


set_option maxRecDepth 100000 in
set_option maxHeartbeats 1000000 in
theorem rrfeed_many (n x0 x1 y0 y1 m c : Nat) (A : Option Addr) (bs : List Bool) (D : Option Addr) (nb cb : Nat) (xs : List Int) (w : World) (hn : n ≤ 4000) (hf : FOk n ⟨x0, x1, y0, y1⟩ bs) (ha : Row .u8 w A m (pack bs)) (hc : m ≤ c ∧ c ≤ 9223372036854775807) (hd : Row .u8 w D nb xs) (hdc : nb ≤ cb ∧ cb ≤ 9223372036854775807) (hx : Within 0 255 xs) (hb : 41000 < nb) :
    Calls Tryd.prog 25 #[.agg #[.int .i64 (n : Int), .int .i64 (x0 : Int), .int .i64 (x1 : Int), .int .u64 (y0 : Int), .int .u64 (y1 : Int), .slice A m c, .int .i64 (((bs.length : Nat)) : Int)], .slice D nb cb] w (RetF w (.err 4)) := by
  have hri := ha.rowIn
  have hdi := hd.rowIn
  have t1 : decide ((41000 : Int) < (nb : Int)) = true := decide_eq_true (by omega)
  have hbl := hf.short
  have HF := Lib.hid hf
  clear hf
  go_enter Tryd.func25, Tryd.ntmps25
  go_wp2_with fail
  refine (rrc_val n x0 x1 y0 y1 m c A bs 0 _ hn HF.out.1 (by exact RowIn.row (lo := 0) (hi := w.heap.size) (by repeat' (first | (with_reducible assumption) | (with_reducible exact Below.refl _ _) | (with_reducible refine Blk.drewN ?_ _) | (with_reducible refine RowIn.drewN ?_ _) | (with_reducible refine below_drewN ?_ _) | (with_reducible refine Blk.drew ?_) | (with_reducible refine RowIn.drew ?_) | (with_reducible refine Below.drew ?_) | (with_reducible refine Blk.new' ?_ ?_ <;> first | (with_reducible rfl) | (simp; done)) | (with_reducible refine Blk.alloc ?_ _) | (with_reducible refine RowIn.alloc ?_ _) | (with_reducible refine Below.alloc ?_ ?_ _) | (with_reducible apply Blk.set') | (with_reducible apply Blk.far') | (with_reducible refine RowIn.far' ?_ ?_ _) | (with_reducible refine Below.far' ?_ ?_ _) | rfl | omega | go_size))) hc (by omega) (Or.inl ⟨rfl, HF.out⟩)).mono ?_
  rintro e w1 ⟨rfl, b1⟩
  have s1 := b1.size
  try simp only [World.size_alloc, World.size_setCell, World.size_drew, size_drewN] at s1
  obtain ⟨zs_1, zr_1, ra_1, rd_1, bb_1⟩ : Blk w1 (w.heap.size) 40 [.int .i64 (n : Int), .int .i64 (x0 : Int), .int .i64 (x1 : Int), .int .u64 (y0 : Int), .int .u64 (y1 : Int), .slice A m c, .int .i64 (((bs.length : Nat)) : Int)] ∧ Blk w1 (w.heap.size + 1) 40 [.int .i64 0, .int .i64 0, .int .i64 0, .int .u64 0, .int .u64 0, .slice none 0 0, .int .i64 0] ∧ RowIn .u8 w1 (0) (w.heap.size) A m (pack bs) ∧ RowIn .u8 w1 (0) (w.heap.size) D nb xs ∧ Below w.heap.size w w1 := by
    refine ⟨?_, ?_, ?_, ?_, ?_⟩
    all_goals repeat' (first | (with_reducible assumption) | (with_reducible exact Below.refl _ _) | (with_reducible refine Blk.drewN ?_ _) | (with_reducible refine RowIn.drewN ?_ _) | (with_reducible refine below_drewN ?_ _) | (with_reducible refine Blk.drew ?_) | (with_reducible refine RowIn.drew ?_) | (with_reducible refine Below.drew ?_) | (with_reducible refine Blk.new' ?_ ?_ <;> first | (with_reducible rfl) | (simp; done)) | (with_reducible refine Blk.alloc ?_ _) | (with_reducible refine RowIn.alloc ?_ _) | (with_reducible refine Below.alloc ?_ ?_ _) | (with_reducible apply Blk.set') | (with_reducible apply Blk.far') | (with_reducible refine RowIn.far' ?_ ?_ _) | (with_reducible refine Below.far' ?_ ?_ _) | (with_reducible refine Blk.after ?_ b1) | (with_reducible refine RowIn.belowS ?_ b1) | (with_reducible refine Below.after ?_ b1 ?_) | rfl | omega | go_size)
  clear b1
  have ks_1 := zs_1.cell; have fs_1 := zs_1.frozen; have ls_1 := zs_1.lt
  have kr_1 := zr_1.cell; have fr_1 := zr_1.frozen; have lr_1 := zr_1.lt
  go_wp2
  refine bodyPost_ret (v := .tuple #[.agg #[.int .i64 0, .int .i64 0, .int .i64 0, .int .u64 0, .int .u64 0, .slice none 0 0, .int .i64 0], .slice none 0 0, .int .i64 4]) (by simp [results, Tryd.results25, go_sem, kr_1, lr_1, fr_1]) rfl ?_
  refine gfeed_err (er := 4) ⟨rfl, ?_⟩
  repeat' (first | (with_reducible assumption) | (with_reducible exact Below.refl _ _) | (with_reducible refine Blk.drewN ?_ _) | (with_reducible refine RowIn.drewN ?_ _) | (with_reducible refine below_drewN ?_ _) | (with_reducible refine Blk.drew ?_) | (with_reducible refine RowIn.drew ?_) | (with_reducible refine Below.drew ?_) | (with_reducible refine Blk.new' ?_ ?_ <;> first | (with_reducible rfl) | (simp; done)) | (with_reducible refine Blk.alloc ?_ _) | (with_reducible refine RowIn.alloc ?_ _) | (with_reducible refine Below.alloc ?_ ?_ _) | (with_reducible apply Blk.set') | (with_reducible apply Blk.far') | (with_reducible refine RowIn.far' ?_ ?_ _) | (with_reducible refine Below.far' ?_ ?_ _) | rfl | omega | go_size)


set_option maxRecDepth 100000 in
set_option maxHeartbeats 1000000 in
theorem rrfeed_ok (n x0 x1 y0 y1 m c : Nat) (A : Option Addr) (bs : List Bool) (D : Option Addr) (nb cb : Nat) (xs : List Int) (w : World) (hn : n ≤ 4000) (hf : FOk n ⟨x0, x1, y0, y1⟩ bs) (ha : Row .u8 w A m (pack bs)) (hc : m ≤ c ∧ c ≤ 9223372036854775807) (hd : Row .u8 w D nb xs) (hdc : nb ≤ cb ∧ cb ≤ 9223372036854775807) (hx : Within 0 255 xs) (hb : nb ≤ 1000) :
    Calls Tryd.prog 25 #[.agg #[.int .i64 (n : Int), .int .i64 (x0 : Int), .int .i64 (x1 : Int), .int .u64 (y0 : Int), .int .u64 (y1 : Int), .slice A m c, .int .i64 (((bs.length : Nat)) : Int)], .slice D nb cb] w (RetF w (feed n ⟨x0, x1, y0, y1⟩ (bs ++ unpack xs))) := by
  have hri := ha.rowIn
  have hdi := hd.rowIn
  have t1 : decide ((41000 : Int) < (nb : Int)) = false := decide_eq_false (by omega)
  have hbl := hf.short
  have HF := Lib.hid hf
  clear hf
  go_enter Tryd.func25, Tryd.ntmps25
  go_wp2_with fail
  refine (rrc_val n x0 x1 y0 y1 m c A bs 0 _ hn HF.out.1 (by exact RowIn.row (lo := 0) (hi := w.heap.size) (by repeat' (first | (with_reducible assumption) | (with_reducible exact Below.refl _ _) | (with_reducible refine Blk.drewN ?_ _) | (with_reducible refine RowIn.drewN ?_ _) | (with_reducible refine below_drewN ?_ _) | (with_reducible refine Blk.drew ?_) | (with_reducible refine RowIn.drew ?_) | (with_reducible refine Below.drew ?_) | (with_reducible refine Blk.new' ?_ ?_ <;> first | (with_reducible rfl) | (simp; done)) | (with_reducible refine Blk.alloc ?_ _) | (with_reducible refine RowIn.alloc ?_ _) | (with_reducible refine Below.alloc ?_ ?_ _) | (with_reducible apply Blk.set') | (with_reducible apply Blk.far') | (with_reducible refine RowIn.far' ?_ ?_ _) | (with_reducible refine Below.far' ?_ ?_ _) | rfl | omega | go_size))) hc (by omega) (Or.inl ⟨rfl, HF.out⟩)).mono ?_
  rintro e w1 ⟨rfl, b1⟩
  have s1 := b1.size
  try simp only [World.size_alloc, World.size_setCell, World.size_drew, size_drewN] at s1
  obtain ⟨zs_1, zr_1, ra_1, rd_1, bb_1⟩ : Blk w1 (w.heap.size) 40 [.int .i64 (n : Int), .int .i64 (x0 : Int), .int .i64 (x1 : Int), .int .u64 (y0 : Int), .int .u64 (y1 : Int), .slice A m c, .int .i64 (((bs.length : Nat)) : Int)] ∧ Blk w1 (w.heap.size + 1) 40 [.int .i64 0, .int .i64 0, .int .i64 0, .int .u64 0, .int .u64 0, .slice none 0 0, .int .i64 0] ∧ RowIn .u8 w1 (0) (w.heap.size) A m (pack bs) ∧ RowIn .u8 w1 (0) (w.heap.size) D nb xs ∧ Below w.heap.size w w1 := by
    refine ⟨?_, ?_, ?_, ?_, ?_⟩
    all_goals repeat' (first | (with_reducible assumption) | (with_reducible exact Below.refl _ _) | (with_reducible refine Blk.drewN ?_ _) | (with_reducible refine RowIn.drewN ?_ _) | (with_reducible refine below_drewN ?_ _) | (with_reducible refine Blk.drew ?_) | (with_reducible refine RowIn.drew ?_) | (with_reducible refine Below.drew ?_) | (with_reducible refine Blk.new' ?_ ?_ <;> first | (with_reducible rfl) | (simp; done)) | (with_reducible refine Blk.alloc ?_ _) | (with_reducible refine RowIn.alloc ?_ _) | (with_reducible refine Below.alloc ?_ ?_ _) | (with_reducible apply Blk.set') | (with_reducible apply Blk.far') | (with_reducible refine RowIn.far' ?_ ?_ _) | (with_reducible refine Below.far' ?_ ?_ _) | (with_reducible refine Blk.after ?_ b1) | (with_reducible refine RowIn.belowS ?_ b1) | (with_reducible refine Below.after ?_ b1 ?_) | rfl | omega | go_size)
  clear b1
  have ks_1 := zs_1.cell; have fs_1 := zs_1.frozen; have ls_1 := zs_1.lt
  have kr_1 := zr_1.cell; have fr_1 := zr_1.frozen; have lr_1 := zr_1.lt
  go_wp2_with fail
  refine (rfed_ok n x0 x1 y0 y1 m c A bs D nb cb xs _ hn HF.out (by exact RowIn.row (lo := 0) (hi := w.heap.size) (by repeat' (first | (with_reducible assumption) | (with_reducible exact Below.refl _ _) | (with_reducible refine Blk.drewN ?_ _) | (with_reducible refine RowIn.drewN ?_ _) | (with_reducible refine below_drewN ?_ _) | (with_reducible refine Blk.drew ?_) | (with_reducible refine RowIn.drew ?_) | (with_reducible refine Below.drew ?_) | (with_reducible refine Blk.new' ?_ ?_ <;> first | (with_reducible rfl) | (simp; done)) | (with_reducible refine Blk.alloc ?_ _) | (with_reducible refine RowIn.alloc ?_ _) | (with_reducible refine Below.alloc ?_ ?_ _) | (with_reducible apply Blk.set') | (with_reducible apply Blk.far') | (with_reducible refine RowIn.far' ?_ ?_ _) | (with_reducible refine Below.far' ?_ ?_ _) | rfl | omega | go_size))) hc (by exact RowIn.row (lo := 0) (hi := w.heap.size) (by repeat' (first | (with_reducible assumption) | (with_reducible exact Below.refl _ _) | (with_reducible refine Blk.drewN ?_ _) | (with_reducible refine RowIn.drewN ?_ _) | (with_reducible refine below_drewN ?_ _) | (with_reducible refine Blk.drew ?_) | (with_reducible refine RowIn.drew ?_) | (with_reducible refine Below.drew ?_) | (with_reducible refine Blk.new' ?_ ?_ <;> first | (with_reducible rfl) | (simp; done)) | (with_reducible refine Blk.alloc ?_ _) | (with_reducible refine RowIn.alloc ?_ _) | (with_reducible refine Below.alloc ?_ ?_ _) | (with_reducible apply Blk.set') | (with_reducible apply Blk.far') | (with_reducible refine RowIn.far' ?_ ?_ _) | (with_reducible refine Below.far' ?_ ?_ _) | rfl | omega | go_size))) hdc hx hb).mono ?_
  rintro e w2 ⟨b2, hres⟩
  have s2 := b2.size
  try simp only [World.size_alloc, World.size_setCell, World.size_drew, size_drewN] at s2
  obtain ⟨zs_2, zr_2, ra_2, rd_2, bb_2⟩ : Blk w2 (w.heap.size) 40 [.int .i64 (n : Int), .int .i64 (x0 : Int), .int .i64 (x1 : Int), .int .u64 (y0 : Int), .int .u64 (y1 : Int), .slice A m c, .int .i64 (((bs.length : Nat)) : Int)] ∧ Blk w2 (w.heap.size + 1) 40 [.int .i64 0, .int .i64 0, .int .i64 0, .int .u64 0, .int .u64 0, .slice none 0 0, .int .i64 0] ∧ RowIn .u8 w2 (0) (w.heap.size) A m (pack bs) ∧ RowIn .u8 w2 (0) (w.heap.size) D nb xs ∧ Below w.heap.size w w2 := by
    refine ⟨?_, ?_, ?_, ?_, ?_⟩
    all_goals repeat' (first | (with_reducible assumption) | (with_reducible exact Below.refl _ _) | (with_reducible refine Blk.drewN ?_ _) | (with_reducible refine RowIn.drewN ?_ _) | (with_reducible refine below_drewN ?_ _) | (with_reducible refine Blk.drew ?_) | (with_reducible refine RowIn.drew ?_) | (with_reducible refine Below.drew ?_) | (with_reducible refine Blk.new' ?_ ?_ <;> first | (with_reducible rfl) | (simp; done)) | (with_reducible refine Blk.alloc ?_ _) | (with_reducible refine RowIn.alloc ?_ _) | (with_reducible refine Below.alloc ?_ ?_ _) | (with_reducible apply Blk.set') | (with_reducible apply Blk.far') | (with_reducible refine RowIn.far' ?_ ?_ _) | (with_reducible refine Below.far' ?_ ?_ _) | (with_reducible refine Blk.after ?_ b2) | (with_reducible refine RowIn.belowS ?_ b2) | (with_reducible refine Below.after ?_ b2 ?_) | rfl | omega | go_size)
  have ks_2 := zs_2.cell; have fs_2 := zs_2.frozen; have ls_2 := zs_2.lt
  have kr_2 := zr_2.cell; have fr_2 := zr_2.frozen; have lr_2 := zr_2.lt
  cases hfd : feed n ⟨x0, x1, y0, y1⟩ (bs ++ unpack xs) with
  | err er =>
    rw [hfd] at hres
    have h2 : e = _ := hres
    subst h2
    have HFD := Lib.hid hfd
    clear hres hfd
    go_wp2
    all_goals try (go_region; all_goals go_wp2)
    refine bodyPost_ret (v := .tuple #[.agg #[.int .i64 0, .int .i64 0, .int .i64 0, .int .u64 0, .int .u64 0, .slice none 0 0, .int .i64 0], .slice none 0 0, .int .i64 (er : Int)]) (by simp [results, Tryd.results25, go_sem, kr_2, lr_2, fr_2]) rfl ?_
    rw [HFD.out]
    refine gfeed_err (er := er) ⟨rfl, ?_⟩
    repeat' (first | (with_reducible assumption) | (with_reducible exact Below.refl _ _) | (with_reducible refine Blk.drewN ?_ _) | (with_reducible refine RowIn.drewN ?_ _) | (with_reducible refine below_drewN ?_ _) | (with_reducible refine Blk.drew ?_) | (with_reducible refine RowIn.drew ?_) | (with_reducible refine Below.drew ?_) | (with_reducible refine Blk.new' ?_ ?_ <;> first | (with_reducible rfl) | (simp; done)) | (with_reducible refine Blk.alloc ?_ _) | (with_reducible refine RowIn.alloc ?_ _) | (with_reducible refine Below.alloc ?_ ?_ _) | (with_reducible apply Blk.set') | (with_reducible apply Blk.far') | (with_reducible refine RowIn.far' ?_ ?_ _) | (with_reducible refine Below.far' ?_ ?_ _) | rfl | omega | go_size)
  | ok vs n2 d2 r2 =>
    rw [hfd] at hres
    obtain ⟨t0, t1', t2, t3, m2, c2, k2, dd2, A2, B2, bs2, zs2, rfl, HD2, hc2, HB2, ra2, hd2, HZ2, rz2⟩ := hres
    have HFD := Lib.hid hfd
    clear hfd
    go_wp2
    all_goals try (go_region; all_goals go_wp2)
    refine bodyPost_ret (v := .tuple #[.agg #[.int .i64 (n2 : Int), .int .i64 (t0 : Int), .int .i64 (t1' : Int), .int .u64 (t2 : Int), .int .u64 (t3 : Int), .slice A2 m2 c2, .int .i64 (((bs2.length : Nat)) : Int)], .slice B2 k2 dd2, .int .i64 0]) (by simp [results, Tryd.results25, go_sem, kr_2, lr_2, fr_2]) rfl ?_
    rw [HFD.out]
    refine ⟨?_, t0, t1', t2, t3, m2, c2, k2, dd2, A2, B2, bs2, zs2, rfl, HD2, hc2, HB2, ?_, hd2, HZ2, ?_⟩
    · repeat' (first | (with_reducible assumption) | (with_reducible exact Below.refl _ _) | (with_reducible refine Blk.drewN ?_ _) | (with_reducible refine RowIn.drewN ?_ _) | (with_reducible refine below_drewN ?_ _) | (with_reducible refine Blk.drew ?_) | (with_reducible refine RowIn.drew ?_) | (with_reducible refine Below.drew ?_) | (with_reducible refine Blk.new' ?_ ?_ <;> first | (with_reducible rfl) | (simp; done)) | (with_reducible refine Blk.alloc ?_ _) | (with_reducible refine RowIn.alloc ?_ _) | (with_reducible refine Below.alloc ?_ ?_ _) | (with_reducible apply Blk.set') | (with_reducible apply Blk.far') | (with_reducible refine RowIn.far' ?_ ?_ _) | (with_reducible refine Below.far' ?_ ?_ _) | rfl | omega | go_size)
    · refine RowIn.mono (lo := w1.heap.size) (hi := w2.heap.size) ?_ (by omega) (by go_size)
      repeat' (first | (with_reducible assumption) | (with_reducible exact Below.refl _ _) | (with_reducible refine Blk.drewN ?_ _) | (with_reducible refine RowIn.drewN ?_ _) | (with_reducible refine below_drewN ?_ _) | (with_reducible refine Blk.drew ?_) | (with_reducible refine RowIn.drew ?_) | (with_reducible refine Below.drew ?_) | (with_reducible refine Blk.new' ?_ ?_ <;> first | (with_reducible rfl) | (simp; done)) | (with_reducible refine Blk.alloc ?_ _) | (with_reducible refine RowIn.alloc ?_ _) | (with_reducible refine Below.alloc ?_ ?_ _) | (with_reducible apply Blk.set') | (with_reducible apply Blk.far') | (with_reducible refine RowIn.far' ?_ ?_ _) | (with_reducible refine Below.far' ?_ ?_ _) | rfl | omega | go_size)
    · refine RowIn.mono (lo := w1.heap.size) (hi := w2.heap.size) ?_ (by omega) (by go_size)
      repeat' (first | (with_reducible assumption) | (with_reducible exact Below.refl _ _) | (with_reducible refine Blk.drewN ?_ _) | (with_reducible refine RowIn.drewN ?_ _) | (with_reducible refine below_drewN ?_ _) | (with_reducible refine Blk.drew ?_) | (with_reducible refine RowIn.drew ?_) | (with_reducible refine Below.drew ?_) | (with_reducible refine Blk.new' ?_ ?_ <;> first | (with_reducible rfl) | (simp; done)) | (with_reducible refine Blk.alloc ?_ _) | (with_reducible refine RowIn.alloc ?_ _) | (with_reducible refine Below.alloc ?_ ?_ _) | (with_reducible apply Blk.set') | (with_reducible apply Blk.far') | (with_reducible refine RowIn.far' ?_ ?_ _) | (with_reducible refine Below.far' ?_ ?_ _) | rfl | omega | go_size)


set_option maxRecDepth 100000 in
set_option maxHeartbeats 1000000 in
theorem rrsame_eq (L p0 p1 q0 q1 N M : Int) (m c m2 c2 : Nat) (A A2 : Option Addr) (xs ys : List Int) (w : World) (ha : Row .u8 w A m xs) (ha2 : Row .u8 w A2 m2 ys) (hb : Within 0 255 xs) (he : xs = ys) (hN : N = M) :
    Calls Tryd.prog 28 #[.agg #[.int .i64 (L : Int), .int .i64 (p0 : Int), .int .i64 (p1 : Int), .int .u64 (q0 : Int), .int .u64 (q1 : Int), .slice A m c, .int .i64 (N : Int)], .agg #[.int .i64 (L : Int), .int .i64 (p0 : Int), .int .i64 (p1 : Int), .int .u64 (q0 : Int), .int .u64 (q1 : Int), .slice A2 m2 c2, .int .i64 (M : Int)]] w fun e w' => e = .returned (.bool true) ∧ Below w.heap.size w w' := by
  subst he
  have HNM := Lib.hid hN
  clear hN
  have hri := ha.rowIn
  have hri2 := ha2.rowIn
  have g1 : (L == L) = true := by simp
  have g2 : (p0 == p0) = true := by simp
  go_enter Tryd.func28, Tryd.ntmps28
  go_wp2_with fail
  refine (rsame_eq A A2 m m2 c c2 N M xs xs _ (by exact RowIn.row (lo := 0) (hi := w.heap.size) (by repeat' (first | (with_reducible assumption) | (with_reducible exact Below.refl _ _) | (with_reducible refine Blk.drewN ?_ _) | (with_reducible refine RowIn.drewN ?_ _) | (with_reducible refine below_drewN ?_ _) | (with_reducible refine Blk.drew ?_) | (with_reducible refine RowIn.drew ?_) | (with_reducible refine Below.drew ?_) | (with_reducible refine Blk.new' ?_ ?_ <;> first | (with_reducible rfl) | (simp; done)) | (with_reducible refine Blk.alloc ?_ _) | (with_reducible refine RowIn.alloc ?_ _) | (with_reducible refine Below.alloc ?_ ?_ _) | (with_reducible apply Blk.set') | (with_reducible apply Blk.far') | (with_reducible refine RowIn.far' ?_ ?_ _) | (with_reducible refine Below.far' ?_ ?_ _) | rfl | omega | go_size))) (by exact RowIn.row (lo := 0) (hi := w.heap.size) (by repeat' (first | (with_reducible assumption) | (with_reducible exact Below.refl _ _) | (with_reducible refine Blk.drewN ?_ _) | (with_reducible refine RowIn.drewN ?_ _) | (with_reducible refine below_drewN ?_ _) | (with_reducible refine Blk.drew ?_) | (with_reducible refine RowIn.drew ?_) | (with_reducible refine Below.drew ?_) | (with_reducible refine Blk.new' ?_ ?_ <;> first | (with_reducible rfl) | (simp; done)) | (with_reducible refine Blk.alloc ?_ _) | (with_reducible refine RowIn.alloc ?_ _) | (with_reducible refine Below.alloc ?_ ?_ _) | (with_reducible apply Blk.set') | (with_reducible apply Blk.far') | (with_reducible refine RowIn.far' ?_ ?_ _) | (with_reducible refine Below.far' ?_ ?_ _) | rfl | omega | go_size))) hb hb HNM.out rfl).mono ?_
  rintro e w1 ⟨rfl, b1⟩
  have s1 := b1.size
  try simp only [World.size_alloc, World.size_setCell, World.size_drew, size_drewN] at s1
  obtain ⟨za_1, zb_1, rx_1, ry_1, bb_1⟩ : Blk w1 (w.heap.size) 40 [.int .i64 (L : Int), .int .i64 (p0 : Int), .int .i64 (p1 : Int), .int .u64 (q0 : Int), .int .u64 (q1 : Int), .slice A m c, .int .i64 (N : Int)] ∧ Blk w1 (w.heap.size + 1) 40 [.int .i64 (L : Int), .int .i64 (p0 : Int), .int .i64 (p1 : Int), .int .u64 (q0 : Int), .int .u64 (q1 : Int), .slice A2 m2 c2, .int .i64 (M : Int)] ∧ RowIn .u8 w1 (0) (w.heap.size) A m xs ∧ RowIn .u8 w1 (0) (w.heap.size) A2 m2 xs ∧ Below w.heap.size w w1 := by
    refine ⟨?_, ?_, ?_, ?_, ?_⟩
    all_goals repeat' (first | (with_reducible assumption) | (with_reducible exact Below.refl _ _) | (with_reducible refine Blk.drewN ?_ _) | (with_reducible refine RowIn.drewN ?_ _) | (with_reducible refine below_drewN ?_ _) | (with_reducible refine Blk.drew ?_) | (with_reducible refine RowIn.drew ?_) | (with_reducible refine Below.drew ?_) | (with_reducible refine Blk.new' ?_ ?_ <;> first | (with_reducible rfl) | (simp; done)) | (with_reducible refine Blk.alloc ?_ _) | (with_reducible refine RowIn.alloc ?_ _) | (with_reducible refine Below.alloc ?_ ?_ _) | (with_reducible apply Blk.set') | (with_reducible apply Blk.far') | (with_reducible refine RowIn.far' ?_ ?_ _) | (with_reducible refine Below.far' ?_ ?_ _) | (with_reducible refine Blk.after ?_ b1) | (with_reducible refine RowIn.belowS ?_ b1) | (with_reducible refine Below.after ?_ b1 ?_) | rfl | omega | go_size)
  clear b1
  have ka_1 := za_1.cell; have fa_1 := za_1.frozen; have la_1 := za_1.lt
  have kb_1 := zb_1.cell; have fb_1 := zb_1.frozen; have lb_1 := zb_1.lt
  go_wp2
  go_ret
  refine ⟨rfl, ?_⟩
  repeat' (first | (with_reducible assumption) | (with_reducible exact Below.refl _ _) | (with_reducible refine Blk.drewN ?_ _) | (with_reducible refine RowIn.drewN ?_ _) | (with_reducible refine below_drewN ?_ _) | (with_reducible refine Blk.drew ?_) | (with_reducible refine RowIn.drew ?_) | (with_reducible refine Below.drew ?_) | (with_reducible refine Blk.new' ?_ ?_ <;> first | (with_reducible rfl) | (simp; done)) | (with_reducible refine Blk.alloc ?_ _) | (with_reducible refine RowIn.alloc ?_ _) | (with_reducible refine Below.alloc ?_ ?_ _) | (with_reducible apply Blk.set') | (with_reducible apply Blk.far') | (with_reducible refine RowIn.far' ?_ ?_ _) | (with_reducible refine Below.far' ?_ ?_ _) | rfl | omega | go_size)


theorem r10great_yes (A : Option Addr) (n c : Nat) (w : World) (h : 190 < n ∧ n ≤ 41000 ∨ 41100 < n) :
    Calls Tryd.prog 23 #[.slice A n c] w fun e w' => e = .returned (.bool true) ∧ Below w.heap.size w w' := by
  rcases h with ⟨h1, h2⟩ | h
  · have t1 : decide ((190 : Int) < (n : Int)) = true := decide_eq_true (by omega)
    have t2 : decide ((n : Int) ≤ 41000) = true := decide_eq_true (by omega)
    go_enter Tryd.func23, Tryd.ntmps23
    go_wp2
    go_ret
    exact ⟨rfl, by go_grown⟩
  · have t1 : decide ((190 : Int) < (n : Int)) = true := decide_eq_true (by omega)
    have t2 : decide ((n : Int) ≤ 41000) = false := decide_eq_false (by omega)
    have t3 : decide ((41100 : Int) < (n : Int)) = true := decide_eq_true (by omega)
    go_enter Tryd.func23, Tryd.ntmps23
    go_wp2
    go_ret
    exact ⟨rfl, by go_grown⟩
theorem r10great_no (A : Option Addr) (n c : Nat) (w : World) (h : ¬ (190 < n ∧ n ≤ 41000 ∨ 41100 < n)) :
    Calls Tryd.prog 23 #[.slice A n c] w fun e w' => e = .returned (.bool false) ∧ Below w.heap.size w w' := by
  have t3 : decide ((41100 : Int) < (n : Int)) = false := decide_eq_false (by omega)
  by_cases h1 : 190 < n
  · have t1 : decide ((190 : Int) < (n : Int)) = true := decide_eq_true (by omega)
    have t2 : decide ((n : Int) ≤ 41000) = false := decide_eq_false (by omega)
    go_enter Tryd.func23, Tryd.ntmps23
    go_wp2
    go_ret
    exact ⟨rfl, by go_grown⟩
  · have t1 : decide ((190 : Int) < (n : Int)) = false := decide_eq_false (by omega)
    go_enter Tryd.func23, Tryd.ntmps23
    go_wp2
    go_ret
    exact ⟨rfl, by go_grown⟩


end Go.Proofs.YtppilidcjlnmoaaDoor

/-
  Rows of values of one cell each (slices of slices), as the rows of integers: over any program.
-/
namespace Cad
open Go Go.RowKit Cad.Bit
set_option linter.unusedVariables false

/-- The slice reads as the values vs; its block is lo or younger, and older than hi. -/
def RowV (w : World) (lo hi : Nat) (A : Option Addr) (n : Nat) (vs : List Value) : Prop :=
  vs.length = n ∧ (0 < n → ∃ b off, A = some ⟨b, off, none⟩ ∧ lo ≤ b ∧ b < hi ∧ b < w.heap.size ∧ ∀ j, j < n → w.cell? ⟨b, off + j, none⟩ = vs[j]?)

section
variable {w w' : World} {lo hi : Nat} {A : Option Addr} {n : Nat} {vs : List Value}
theorem RowV.nil : RowV w lo hi A 0 [] := ⟨rfl, fun h => absurd h (by omega)⟩
theorem RowV.keep (h : RowV w lo hi A n vs) (hs : w.heap.size ≤ w'.heap.size) (hk : ∀ p : Addr, lo ≤ p.block → p.block < hi → p.block < w.heap.size → w'.cell? p = w.cell? p) : RowV w' lo hi A n vs :=
  ⟨h.1, fun hn => by
    obtain ⟨b, off, e, h1, h2, h3, hc⟩ := h.2 hn
    exact ⟨b, off, e, h1, h2, by omega, fun j hj => (hk _ h1 h2 h3).trans (hc j hj)⟩⟩
theorem RowV.mono {lo' hi' : Nat} (h : RowV w lo hi A n vs) (h1 : lo' ≤ lo) (h2 : hi ≤ hi') : RowV w lo' hi' A n vs :=
  ⟨h.1, fun hn => by
    obtain ⟨b, off, e, hb, hb2, h3, hc⟩ := h.2 hn
    exact ⟨b, off, e, by omega, by omega, h3, hc⟩⟩
theorem RowV.belowS (h : RowV w lo hi A n vs) (hb : Below w.heap.size w w') : RowV w' lo hi A n vs := h.keep hb.size fun p _ _ h3 => hb.cell h3
theorem RowV.below {B : Nat} (h : RowV w lo hi A n vs) (hb : Below B w w') (hB : hi ≤ B) : RowV w' lo hi A n vs := h.keep hb.size fun p _ h2 _ => hb.cell (by omega)
theorem RowV.alloc (h : RowV w lo hi A n vs) (o : Obj) : RowV (w.alloc o) lo hi A n vs := h.keep (by simp) fun p _ _ h3 => World.cell?_alloc_lt w o p h3
theorem RowV.drew (h : RowV w lo hi A n vs) : RowV w.drew lo hi A n vs := h
theorem RowV.drewN (h : RowV w lo hi A n vs) (m : Nat) : RowV (w.drewN m) lo hi A n vs := h
theorem RowV.far' {b i : Nat} (h : RowV w lo hi A n vs) (hp : b < lo ∨ hi ≤ b) (u : Value) : RowV (w.setCell ⟨b, i, none⟩ u) lo hi A n vs :=
  h.keep (by simp [World.setCell]) fun q h1 h2 _ => World.cell?_setCell_other w ⟨b, i, none⟩ q u (fun e => by subst e; simp only at h1 h2; omega)
end

/-- What the append law asks of an element type of one cell. -/
structure ElemV (P : Program) (t e : TypeId) (z : Value) (by_ : Nat) : Prop where
  slice : P.underlying t = some (.slice e)
  info : ∃ i, P.info? e = some i ∧ i.zero = some z ∧ i.size = 1 ∧ i.bytes = by_
  one : z.cells.size = 1
  small : by_ ≤ 24

/-- A slice of the call's own (its block is 'base' or younger), which reads as the values vs. -/
def OwnV (w : World) (base : Nat) (e : TypeId) (A : Option Addr) (n c : Nat) (vs : List Value) : Prop := w.ownsRow base e 1 (.slice A n c) n vs

section
variable {w w' : World} {base : Nat} {e : TypeId} {A : Option Addr} {n c : Nat} {vs : List Value}
theorem OwnV.nil (w : World) (base : Nat) (e : TypeId) : OwnV w base e none 0 0 [] := World.ownsRow_nil w base e 1
theorem OwnV.len (h : OwnV w base e A n c vs) : vs.length = n := by have := h.1; simpa using this
theorem OwnV.cases (h : OwnV w base e A n c vs) : (A = none ∧ n = 0 ∧ c = 0 ∧ vs = []) ∨ ∃ g rest, A = some ⟨g, 0, none⟩ ∧ base ≤ g ∧ n ≤ c ∧ c ≤ maxLen ∧ n + rest.length = c ∧ Blk w g e (vs ++ rest) := by
  have hl := h.len
  rcases h.2 with ⟨hv, h0⟩ | ⟨g, cap, cur, hv, hb, hh, hnc, hcm, hs, ht⟩
  · injection hv with h1 h2 h3
    exact .inl ⟨h1, h0, h3, List.eq_nil_of_length_eq_zero (by omega)⟩
  · injection hv with h1 h2 h3
    subst h1 h3
    refine .inr ⟨g, cur.toList.drop n, rfl, hb, hnc, hcm, ?_, ?_⟩
    · rw [List.length_drop, Array.length_toList]; omega
    · unfold Blk
      rw [hh]
      have : vs ++ cur.toList.drop n = cur.toList := by
        rw [← ht, Nat.mul_one, List.take_append_drop]
      rw [this]
theorem OwnV.mk {g : Nat} {rest : List Value} (hb : base ≤ g) (hn : vs.length = n) (hc : n + rest.length = c) (hm : c ≤ maxLen) (hk : Blk w g e (vs ++ rest)) : OwnV w base e (some ⟨g, 0, none⟩) n c vs := by
  refine ⟨by simpa using hn, .inr ⟨g, c, (vs ++ rest).toArray, rfl, hb, hk, by omega, hm, by simp; omega, ?_⟩⟩
  subst hn
  rw [show (vs ++ rest).toArray.toList = vs ++ rest from rfl, Nat.mul_one, List.take_left' (by simp)]
theorem OwnV.cap (h : OwnV w base e A n c vs) : n ≤ c ∧ c ≤ 9223372036854775807 := by
  rcases h.cases with ⟨_, h0, h1, _⟩ | ⟨g, rest, _, _, h1, h2, _⟩
  · subst h0 h1; exact ⟨Nat.le_refl _, Nat.zero_le _⟩
  · exact ⟨h1, Nat.le_trans h2 (by simp only [maxLen]; omega)⟩
theorem OwnV.block (h : OwnV w base e A n c vs) : ∀ g, blockOf A = some g → base ≤ g ∧ g < w.heap.size := by
  intro g hg
  exact World.ownsRow.lt h g (by rw [ownBlock_slice]; exact hg)
theorem OwnV.rowV (h : OwnV w base e A n c vs) : RowV w base w.heap.size A n vs := by
  refine ⟨h.len, fun hn => ?_⟩
  have hl := h.len
  rcases h.cases with ⟨_, h0, _⟩ | ⟨g, rest, rfl, hb, _, _, _, hk⟩
  · omega
  · refine ⟨g, 0, rfl, hb, hk.lt, hk.lt, fun j hj => ?_⟩
    rw [Nat.zero_add, hk.cell, List.getElem?_append_left (by omega)]
theorem OwnV.grown {row : Option Nat} (h : OwnV w base e A n c vs) (hg : w.grownBy w' row) (hne : ∀ g, row = some g → blockOf A ≠ some g) : OwnV w' base e A n c vs := by
  refine World.ownsRow.kept h hg ?_
  rw [ownBlock_slice]
  cases row with
  | none => cases A with
    | none => exact .inl rfl
    | some a => exact .inr (by simp [blockOf])
  | some g => exact .inr (hne g rfl)
theorem OwnV.below {B : Nat} (h : OwnV w base e A n c vs) (hb : Below B w w') (hB : w.heap.size ≤ B) : OwnV w' base e A n c vs :=
  World.ownsRow.kept h (only_of_below (hb.mono hB) none) (by cases A with
    | none => exact .inl rfl
    | some a => exact .inr (by simp [Value.ownBlock]))
theorem OwnV.frm {S : Nat → Prop} (h : OwnV w base e A n c vs) (hf : Frm S w w') (hs : ∀ g, blockOf A = some g → ¬ S g) : OwnV w' base e A n c vs := by
  rcases h.cases with ⟨rfl, rfl, rfl, rfl⟩ | ⟨g, rest, rfl, hb, hnc, hcm, hr, hk⟩
  · exact OwnV.nil _ _ _
  · exact OwnV.mk hb h.len hr hcm (hk.frm hf (hs g rfl))
theorem OwnV.ne_blk {g : Nat} {t : TypeId} {l : List Value} (h : OwnV w base e A n c vs) (hg : Blk w g t l) (hne : e ≠ t) : blockOf A ≠ some g := by
  rcases h.cases with ⟨rfl, _⟩ | ⟨g', rest, rfl, _, _, _, _, hk⟩
  · intro h; cases h
  · intro he
    have : g' = g := by simpa [blockOf] using he
    subst this
    unfold Blk at hk hg
    rw [hk] at hg
    injection hg with hg
    injection hg with _ ht
    exact hne ht
theorem OwnV.drewN (h : OwnV w base e A n c vs) (m : Nat) : OwnV (w.drewN m) base e A n c vs := h
theorem OwnV.drew (h : OwnV w base e A n c vs) : OwnV w.drew base e A n c vs := h
theorem OwnV.alloc (h : OwnV w base e A n c vs) (o : Obj) : OwnV (w.alloc o) base e A n c vs := World.ownsRow.alloc h o
theorem OwnV.far' {b i : Nat} (h : OwnV w base e A n c vs) (hb : blockOf A ≠ some b) (u : Value) : OwnV (w.setCell ⟨b, i, none⟩ u) base e A n c vs :=
  h.frm (S := fun j => j = b) ((Frm.refl (fun j => j = b) w).setCell (p := ⟨b, i, none⟩) (fun _ => rfl) u) (fun j e hj => hb (by rw [e, hj]))
end

section
variable {P : Program} (w : World)

theorem run_appV {t e : TypeId} {z : Value} {by_ : Nat} (E : ElemV P t e z by_) (ty : TypeId) (base : Nat) (A : Option Addr) (n c : Nat) (xs : List Value) (hown : OwnV w base e A n c xs)
    (ad : Addr) (m d : Nat) (ys : List Value) (hl : ys.length = m) (hr : ∀ j u, ys[j]? = some u → w.cell? (ad.add j) = some u) (h1 : ∀ u ∈ ys, u.oneCell' = true) (hsm : n + m ≤ 1000000) (hbase : base ≤ w.heap.size) :
    ∃ A' c' w', (Builtin.append_ #[t, t] ty #[.slice A n c, .slice (some ad) m d]).run P w = .ok (.slice A' (n + m) c') w' ∧ OwnV w' base e A' (n + m) c' (xs ++ ys) ∧ w.grownBy w' (blockOf A) ∧
      (blockOf A' = blockOf A ∨ blockOf A' = some w.heap.size) := by
  obtain ⟨i, hi, hz, hs, hby⟩ := E.info
  have hsm' : (n + m) * by_ ≤ 140737488355328 := by
    have := E.small
    calc (n + m) * by_ ≤ 1000000 * 24 := Nat.mul_le_mul hsm this
      _ ≤ 140737488355328 := by omega
  obtain ⟨v', w', hrun, h2, h3, _, h4⟩ := run_append_own_at (P := P) w base t ty e i z 1 by_ E.slice hi hz hs hby E.one (by omega) (.slice A n c) n xs hown ad m d ys
    (by omega) hr h1 (by simp only [maxLen]; omega) hsm' hbase
  have hform : ∃ A' c', v' = .slice A' (n + m) c' := by
    rcases h2.2 with ⟨rfl, h0⟩ | ⟨g, cap, cur, rfl, _⟩
    · exact ⟨none, 0, by rw [h0]⟩
    · exact ⟨_, cap, rfl⟩
  obtain ⟨A', c', rfl⟩ := hform
  rw [ownBlock_slice, ownBlock_slice] at h4
  rw [ownBlock_slice] at h3
  exact ⟨A', c', w', hrun, h2, h3, h4⟩
theorem wp_appV {o : Oper} {a : Act} {K : Act → World → Prop} {Q : Exit → Act → World → Prop} {t e : TypeId} {z : Value} {by_ : Nat} (E : ElemV P t e z by_) (s x : Operand)
    (ho : o.op = .call { callee := .builtin .append, args := #[s, x], argTypes := #[t, t] })
    (base : Nat) (A : Option Addr) (n c : Nat) (xs : List Value) (hs : a.eval s = .slice A n c) (hown : OwnV w base e A n c xs)
    (ad : Addr) (m d : Nat) (ys : List Value) (hx : a.eval x = .slice (some ad) m d) (hl : ys.length = m) (hr : ∀ j u, ys[j]? = some u → w.cell? (ad.add j) = some u) (h1 : ∀ u ∈ ys, u.oneCell' = true) (hsm : n + m ≤ 1000000) (hbase : base ≤ w.heap.size)
    (h : ∀ A' c' w', OwnV w' base e A' (n + m) c' (xs ++ ys) → w.grownBy w' (blockOf A) → (blockOf A' = blockOf A ∨ blockOf A' = some w.heap.size) → K (a.put o.dst (.slice A' (n + m) c')) w') : o.wp P a w K Q := by
  obtain ⟨A', c', w', hrun, h2, h3, h4⟩ := run_appV w E o.type base A n c xs hown ad m d ys hl hr h1 hsm hbase
  unfold Oper.wp execOp
  simp only [ho, resolve, invoke, builtin, Sem.run_bind, Sem.run_pure, Result.andThen_ok, List.map_toArray, List.map_cons, List.map_nil, hs, hx, hrun]
  exact h A' c' w' h2 h3 h4
/-- 'append(s, x)' of values of one cell: s is the call's own, the new ones stand in a fresh block. -/
theorem wpList_appV {ops : Array Oper} {rest : List Oper} {o : Oper} {a : Act} {Q : Exit → Act → World → Prop} {t e : TypeId} {z : Value} {by_ : Nat} (E : ElemV P t e z by_) (hgd : o.guard = none) (s x : Operand)
    (ho : o.op = .call { callee := .builtin .append, args := #[s, x], argTypes := #[t, t] })
    (base : Nat) (A : Option Addr) (n c : Nat) (xs : List Value) (hs : a.eval s = .slice A n c) (hown : OwnV w base e A n c xs)
    (ad : Addr) (m d : Nat) (ys : List Value) (hx : a.eval x = .slice (some ad) m d) (hl : ys.length = m) (hr : ∀ j u, ys[j]? = some u → w.cell? (ad.add j) = some u) (h1 : ∀ u ∈ ys, u.oneCell' = true) (hsm : n + m ≤ 1000000) (hbase : base ≤ w.heap.size)
    (h : ∀ A' c' w', OwnV w' base e A' (n + m) c' (xs ++ ys) → w.grownBy w' (blockOf A) → (blockOf A' = blockOf A ∨ blockOf A' = some w.heap.size) → wpList P ops Q rest (a.put o.dst (.slice A' (n + m) c')) w') :
    wpList P ops Q (o :: rest) a w :=
  wpList_plain hgd fun _ hK => wp_appV w E s x ho base A n c xs hs hown ad m d ys hx hl hr h1 hsm hbase fun A' c' w' h2 h3 h4 => hK _ _ (h A' c' w' h2 h3 h4)
end

/-- The cells of a fresh block, as 'append' reads them. -/
theorem fresh_cells {w : World} {g : Nat} {t : TypeId} {l : List Value} (h : Blk w g t l) : ∀ j u, l[j]? = some u → w.cell? ((⟨g, 0, none⟩ : Addr).add j) = some u := fun j u hu => by
  have e : (⟨g, 0, none⟩ : Addr).add j = ⟨g, j, none⟩ := by
    unfold Addr.add
    by_cases h0 : j = 0 <;> simp [h0]
  rw [e, h.cell]; exact hu
theorem Blk.far7 {w : World} {g b : Nat} {t : TypeId} {l : List Value} {u0 u1 u2 u3 u4 u5 u6 : Value} (h : Blk w g t l) (hp : g ≠ b) : Blk (((((((w.setCell ⟨b, 0, none⟩ u0).setCell ⟨b, 1, none⟩ u1).setCell ⟨b, 2, none⟩ u2).setCell ⟨b, 3, none⟩ u3).setCell ⟨b, 4, none⟩ u4).setCell ⟨b, 5, none⟩ u5).setCell ⟨b, 6, none⟩ u6) g t l := (Blk.far' (Blk.far' (Blk.far' (Blk.far' (Blk.far' (Blk.far' (Blk.far' h hp u0) hp u1) hp u2) hp u3) hp u4) hp u5) hp u6)
theorem RowIn.far7 {w : World} {k : IntKind} {lo hi b n : Nat} {A : Option Addr} {xs : List Int} {u0 u1 u2 u3 u4 u5 u6 : Value} (h : RowIn k w lo hi A n xs) (hp : b < lo ∨ hi ≤ b) : RowIn k (((((((w.setCell ⟨b, 0, none⟩ u0).setCell ⟨b, 1, none⟩ u1).setCell ⟨b, 2, none⟩ u2).setCell ⟨b, 3, none⟩ u3).setCell ⟨b, 4, none⟩ u4).setCell ⟨b, 5, none⟩ u5).setCell ⟨b, 6, none⟩ u6) lo hi A n xs := (RowIn.far' (RowIn.far' (RowIn.far' (RowIn.far' (RowIn.far' (RowIn.far' (RowIn.far' h hp u0) hp u1) hp u2) hp u3) hp u4) hp u5) hp u6)
theorem Below.far7 {w a : World} {B b : Nat} {u0 u1 u2 u3 u4 u5 u6 : Value} (h : Below B a w) (hp : B ≤ b) : Below B a (((((((w.setCell ⟨b, 0, none⟩ u0).setCell ⟨b, 1, none⟩ u1).setCell ⟨b, 2, none⟩ u2).setCell ⟨b, 3, none⟩ u3).setCell ⟨b, 4, none⟩ u4).setCell ⟨b, 5, none⟩ u5).setCell ⟨b, 6, none⟩ u6) := (Below.far' (Below.far' (Below.far' (Below.far' (Below.far' (Below.far' (Below.far' h hp u0) hp u1) hp u2) hp u3) hp u4) hp u5) hp u6)
theorem Own.far7 {w : World} {base b : Nat} {e : TypeId} {k : IntKind} {A : Option Addr} {n c : Nat} {xs : List Int} {u0 u1 u2 u3 u4 u5 u6 : Value} (h : Own w base e k A n c xs) (hp : blockOf A ≠ some b) : Own (((((((w.setCell ⟨b, 0, none⟩ u0).setCell ⟨b, 1, none⟩ u1).setCell ⟨b, 2, none⟩ u2).setCell ⟨b, 3, none⟩ u3).setCell ⟨b, 4, none⟩ u4).setCell ⟨b, 5, none⟩ u5).setCell ⟨b, 6, none⟩ u6) base e k A n c xs := (Own.far' (Own.far' (Own.far' (Own.far' (Own.far' (Own.far' (Own.far' h hp u0) hp u1) hp u2) hp u3) hp u4) hp u5) hp u6)
theorem Blk.set7 {w : World} {b : Nat} {t : TypeId} {a0 a1 a2 a3 a4 a5 a6 u0 u1 u2 u3 u4 u5 u6 : Value} (h : Blk w b t [a0, a1, a2, a3, a4, a5, a6]) : Blk (((((((w.setCell ⟨b, 0, none⟩ u0).setCell ⟨b, 1, none⟩ u1).setCell ⟨b, 2, none⟩ u2).setCell ⟨b, 3, none⟩ u3).setCell ⟨b, 4, none⟩ u4).setCell ⟨b, 5, none⟩ u5).setCell ⟨b, 6, none⟩ u6) b t [u0, u1, u2, u3, u4, u5, u6] := (Blk.set' (l0 := [u0, u1, u2, u3, u4, u5, a6]) (Blk.set' (l0 := [u0, u1, u2, u3, u4, a5, a6]) (Blk.set' (l0 := [u0, u1, u2, u3, a4, a5, a6]) (Blk.set' (l0 := [u0, u1, u2, a3, a4, a5, a6]) (Blk.set' (l0 := [u0, u1, a2, a3, a4, a5, a6]) (Blk.set' (l0 := [u0, a1, a2, a3, a4, a5, a6]) (Blk.set' (l0 := [a0, a1, a2, a3, a4, a5, a6]) h rfl) rfl) rfl) rfl) rfl) rfl) rfl)
/-- A row of integers does not lie in a block that has no such integers: it stays when that block is written. -/
theorem far7_ne {w : World} {k : IntKind} {lo hi b n : Nat} {A : Option Addr} {xs : List Int} {t : TypeId} {l : List Value} {u0 u1 u2 u3 u4 u5 u6 : Value} (h : RowIn k w lo hi A n xs) (hb : Blk w b t l) (hl : ∀ (i : Nat) (v : Int), l[i]? = some (.int k v) → False) : RowIn k (((((((w.setCell ⟨b, 0, none⟩ u0).setCell ⟨b, 1, none⟩ u1).setCell ⟨b, 2, none⟩ u2).setCell ⟨b, 3, none⟩ u3).setCell ⟨b, 4, none⟩ u4).setCell ⟨b, 5, none⟩ u5).setCell ⟨b, 6, none⟩ u6) lo hi A n xs := by
  by_cases hn : n = 0
  · exact ⟨h.1, fun h0 => absurd h0 (by omega)⟩
  · obtain ⟨b0, off, e, h1, h2, hc⟩ := h.2 (by omega)
    have hne : b ≠ b0 := by
      rintro rfl
      have h3 := hc 0 (by omega)
      rw [hb.cell] at h3
      exact hl _ _ h3
    have h4 : RowIn k w b0 (b0 + 1) A n xs := ⟨h.1, fun _ => ⟨b0, off, e, Nat.le_refl _, Nat.lt_succ_self _, hc⟩⟩
    exact (RowIn.far7 h4 (by omega)).mono h1 h2
end Cad

/-
  Contracts of law 10's feeds and cut.
-/
namespace Go.Proofs.YtppilidcjlnmoaaDoor
open Go.RowKit Cad Cad.Bit Cad.Code
set_option linter.unusedVariables false
set_option linter.unusedSimpArgs false


theorem info_z {P : Program} {e : TypeId} {z : Value} {n : Nat} (h : (P.info? e).map (fun i => (i.zero, i.size, i.bytes)) = some (some z, 1, n)) : ∃ i, P.info? e = some i ∧ i.zero = some z ∧ i.size = 1 ∧ i.bytes = n := by
  cases hi : P.info? e with
  | none => rw [hi] at h; cases h
  | some i =>
    rw [hi] at h
    simp only [Option.map_some, Option.some.injEq, Prod.mk.injEq] at h
    exact ⟨i, rfl, h.1, h.2.1, h.2.2⟩
theorem bytesE : ElemV Tryd.prog 70 22 (.slice none 0 0) 24 := ⟨Tryd.underlying70, info_z (by kernel_rfl), rfl, by omega⟩
/-- Pieces of bytes: the slices, and what they read as. -/
def Pieces (w : World) (vs : List Value) (ps : List (List Int)) : Prop :=
  vs.length = ps.length ∧ ∀ j, j < vs.length → ∃ (A : Option Addr) (n c : Nat), vs[j]? = some (.slice A n c) ∧ (n ≤ c ∧ c ≤ 9223372036854775807) ∧ Row .u8 w A n (ps.getD j [])
theorem Pieces.nil (w : World) : Pieces w [] [] := ⟨rfl, fun j hj => absurd hj (by simp)⟩
theorem Pieces.snoc {w : World} {vs : List Value} {ps : List (List Int)} {A : Option Addr} {n c : Nat} {xs : List Int} (h : Pieces w vs ps) (hc : n ≤ c ∧ c ≤ 9223372036854775807) (hr : Row .u8 w A n xs) : Pieces w (vs ++ [.slice A n c]) (ps ++ [xs]) := by
  refine ⟨by simp [h.1], fun j hj => ?_⟩
  rw [List.length_append, List.length_singleton] at hj
  by_cases h1 : j < vs.length
  · obtain ⟨A', n', c', e, h2, h3⟩ := h.2 j h1
    refine ⟨A', n', c', by rw [List.getElem?_append_left h1]; exact e, h2, ?_⟩
    rw [List.getD_eq_getElem?_getD, List.getElem?_append_left (by rw [← h.1]; exact h1), ← List.getD_eq_getElem?_getD]; exact h3
  · obtain rfl : j = vs.length := by omega
    refine ⟨A, n, c, by simp, hc, ?_⟩
    rw [List.getD_eq_getElem?_getD, h.1, List.getElem?_append_right (Nat.le_refl _)]
    simpa using hr
theorem Pieces.below {w w' : World} {vs : List Value} {ps : List (List Int)} (h : Pieces w vs ps) (hb : Below w.heap.size w w') : Pieces w' vs ps :=
  ⟨h.1, fun j hj => by
    obtain ⟨A, n, c, e, h2, h3⟩ := h.2 j hj
    exact ⟨A, n, c, e, h2, h3.below hb⟩⟩
theorem flat_next (ps : List (List Int)) (i : Nat) (h : i < ps.length) : (ps.take (i + 1)).flatten = (ps.take i).flatten ++ ps.getD i [] := by
  have : ps.take (i + 1) = ps.take i ++ [ps.getD i []] := by
    rw [List.take_add_one, List.getD_eq_getElem?_getD, List.getElem?_eq_getElem h]; rfl
  rw [this, List.flatten_append]; simp
theorem getD_within {ps : List (List Int)} (h : ∀ p ∈ ps, Within 0 255 p ∧ p.length ≤ 41000) (i : Nat) : Within 0 255 (ps.getD i []) ∧ (ps.getD i []).length ≤ 41000 := by
  rw [List.getD_eq_getElem?_getD]
  by_cases hi : i < ps.length
  · rw [List.getElem?_eq_getElem hi]; exact h _ (List.getElem_mem hi)
  · rw [List.getElem?_eq_none (by omega)]; exact ⟨fun x hx => by simp at hx, by simp⟩
theorem feed_pieces {n n' : Nat} {d d' : Dual} {l r : List Bool} {p q : List Int} {vs : List Nat} (hd : d.Ok) (h : feed n d (l ++ unpack p) = .ok vs n' d' r) :
    feed n d (l ++ unpack (p ++ q)) = (feed n' d' (r ++ unpack q)).app vs := by
  rw [Cad.Code.unpack_append, ← List.append_assoc, feed_append hd, h]
theorem feed_piecee {n e : Nat} {d : Dual} {l : List Bool} {p q : List Int} (hd : d.Ok) (h : feed n d (l ++ unpack p) = .err e) : feed n d (l ++ unpack (p ++ q)) = .err e := by
  rw [Cad.Code.unpack_append, ← List.append_assoc, feed_append hd, h]
theorem flat_within {ps : List (List Int)} {xs : List Int} (h : ps.flatten = xs) (hx : Within 0 255 xs) (hl : xs.length ≤ 41000) : ∀ p ∈ ps, Within 0 255 p ∧ p.length ≤ 41000 := fun p hp =>
  ⟨fun x hx' => hx x (by rw [← h]; exact List.mem_flatten.2 ⟨p, hp, hx'⟩), by
    have := (List.sublist_flatten_of_mem hp).length_le
    rw [h] at this; omega⟩
theorem flat_split (ps : List (List Int)) (i : Nat) : ps.flatten = (ps.take i).flatten ++ (ps.drop i).flatten := by rw [← List.flatten_append, List.take_append_drop]

theorem row_grown {k : IntKind} {w w' : World} {lo hi : Nat} {A : Option Addr} {n : Nat} {xs : List Int} {row : Option Nat} (h : RowIn k w lo hi A n xs) (hg : w.grownBy w' row) (hr : ∀ g, row = some g → g < lo ∨ hi ≤ g) : RowIn k w' lo hi A n xs :=
  h.keep fun p h1 h2 h3 => World.cell?_of_block (hg.block _ h3 (fun e => by have := hr _ e.symm; omega))
theorem pick_both {k k' : IntKind} {w : World} {lo hi : Nat} {A B : Option Addr} {n m : Nat} {xs ys : List Int} (h : RowIn k w lo hi A n xs) (h' : RowIn k' w lo hi B m ys) : ∃ lo', lo ≤ lo' ∧ lo' ≤ lo ∧ RowIn k w lo' hi A n xs ∧ RowIn k' w lo' hi B m ys := ⟨lo, Nat.le_refl _, Nat.le_refl _, h, h'⟩
/-- What feeding ends in, wherever the bytes of the state lie. -/
def RetG (w : World) (g : Fed) (e : Ending) (w' : World) : Prop :=
  Below w.heap.size w w' ∧ match g with
    | .ok vs n d r => ∃ (p0 p1 q0 q1 m c k dd : Nat) (A B : Option Addr) (bs : List Bool) (zs : List Int), e = .returned (.tuple #[.agg #[.int .i64 (n : Int), .int .i64 (p0 : Int), .int .i64 (p1 : Int), .int .u64 (q0 : Int), .int .u64 (q1 : Int), .slice A m c, .int .i64 (((bs.length : Nat)) : Int)], .slice B k dd, .int .i64 0]) ∧ Hid ((⟨p0, p1, q0, q1⟩ : Dual) = d) ∧ (m ≤ c ∧ c ≤ 9223372036854775807) ∧ Hid (bs = r) ∧ RowIn .u8 w' 0 w'.heap.size A m (pack bs) ∧ (k ≤ dd ∧ dd ≤ 9223372036854775807) ∧ Hid (zs = ints vs) ∧ RowIn .u32 w' 0 w'.heap.size B k zs
    | .err er => e = .returned (.tuple #[.agg #[.int .i64 0, .int .i64 0, .int .i64 0, .int .u64 0, .int .u64 0, .slice none 0 0, .int .i64 0], .slice none 0 0, .int .i64 (er : Int)])
theorem geeds_err {w : World} {er : Nat} {e : Ending} {w' : World} (h : e = .returned (.tuple #[.agg #[.int .i64 0, .int .i64 0, .int .i64 0, .int .u64 0, .int .u64 0, .slice none 0 0, .int .i64 0], .slice none 0 0, .int .i64 (er : Int)]) ∧ Below w.heap.size w w') : RetG w (.err er) e w' := ⟨h.2, h.1⟩
theorem RetF.retG {w w' : World} {g : Fed} {e : Ending} (h : RetF w g e w') : RetG w g e w' := by
  obtain ⟨h1, h2⟩ := h
  refine ⟨h1, ?_⟩
  cases g with
  | err er => exact h2
  | ok vs n d r =>
    obtain ⟨p0, p1, q0, q1, m, c, k, dd, A, B, bs, zs, e1, e2, e3, e4, e5, e6, e7, e8⟩ := h2
    exact ⟨p0, p1, q0, q1, m, c, k, dd, A, B, bs, zs, e1, e2, e3, e4, e5.mono (Nat.zero_le _) (Nat.le_refl _), e6, e7, e8.mono (Nat.zero_le _) (Nat.le_refl _)⟩


set_option maxRecDepth 100000 in
set_option maxHeartbeats 4000000 in
theorem feeds_ok (n x0 x1 y0 y1 m c : Nat) (A : Option Addr) (bs : List Bool) (D : Option Addr) (nb cb : Nat) (vs : List Value) (ps : List (List Int)) (w : World) (hn : n ≤ 4000) (hf : FOk n ⟨x0, x1, y0, y1⟩ bs) (ha : Row .u8 w A m (pack bs)) (hc : m ≤ c ∧ c ≤ 9223372036854775807) (hd : RowV w 0 w.heap.size D nb vs) (hdc : nb ≤ cb ∧ cb ≤ 9223372036854775807) (hp : Pieces w vs ps) (hx : ∀ p ∈ ps, Within 0 255 p ∧ p.length ≤ 41000) (ht : Tab w) (hb : nb ≤ 1000) :
    Calls Tryd.prog 39 #[.agg #[.int .i64 (n : Int), .int .i64 (x0 : Int), .int .i64 (x1 : Int), .int .u64 (y0 : Int), .int .u64 (y1 : Int), .slice A m c, .int .i64 (((bs.length : Nat)) : Int)], .slice D nb cb] w (RetG w (feed n ⟨x0, x1, y0, y1⟩ (bs ++ unpack ps.flatten))) := by
  have hri := ha.rowIn
  have HVL := Lib.hid hd.1
  have HPL := Lib.hid (hp.1)
  have hti : RowIn .u8 w 0 w.heap.size (some ⟨0, 0, none⟩) 64 dbTab := ht.rowIn
  have htl : 0 < w.heap.size := by
    obtain ⟨b, off, e, h1, h2, _⟩ := ht.rowIn.2 (by omega)
    injection e with e; injection e with e _ _; omega
  have hbl := hf.short
  have HF := Lib.hid hf
  have HPS := Lib.hid hp
  have HXS := Lib.hid hx
  clear hf hp hx
  go_enter Tryd.func39, Tryd.ntmps39
  go_wp2_with fail
  go_loopg [7, 8] nb (fun k vall vi wr => ∃ (i n' p0 p1 q0 q1 m' c' j d lo hi : Nat) (A' B : Option Addr) (r : List Bool) (us : List Nat) (zs : List Int), i + k = nb ∧ vi = .int .i64 (i : Nat) ∧ vall = .slice B j d ∧ Hid (feed n ⟨x0, x1, y0, y1⟩ (bs ++ unpack (ps.take i).flatten) = .ok us n' ⟨p0, p1, q0, q1⟩ r) ∧ Hid (FOk n' ⟨p0, p1, q0, q1⟩ r) ∧ j + n' ≤ n ∧ (m' ≤ c' ∧ c' ≤ 9223372036854775807) ∧ Hid (zs = ints us) ∧ Own wr w.heap.size 55 .u32 B j d zs ∧ Blk wr (w.heap.size) 40 [.int .i64 (n' : Int), .int .i64 (p0 : Int), .int .i64 (p1 : Int), .int .u64 (q0 : Int), .int .u64 (q1 : Int), .slice A' m' c', .int .i64 (((r.length : Nat)) : Int)] ∧ Blk wr (w.heap.size + 1) 40 [.int .i64 0, .int .i64 0, .int .i64 0, .int .u64 0, .int .u64 0, .slice none 0 0, .int .i64 0] ∧ RowIn .u8 wr lo hi A' m' (pack r) ∧ (w.heap.size + 1 < lo ∨ hi ≤ w.heap.size) ∧ hi ≤ wr.heap.size ∧ Below w.heap.size w wr ∧ w.heap.size + 1 < wr.heap.size)
  case atStart =>
    refine ⟨0, n, x0, x1, y0, y1, m, c, 0, 0, 0, w.heap.size, A, none, bs, [], [], by omega, rfl, rfl, Lib.hid ?_, HF, by omega, hc, Lib.hid rfl, Own.nil _ _ _ _, ?_, ?_, ?_, Or.inr (Nat.le_refl _), by go_size, ?_, by go_size⟩
    · rw [List.take_zero, show unpack (([] : List (List Int)).flatten) = [] from rfl, List.append_nil]; exact feed_stays HF.out
    all_goals repeat' (first | (with_reducible assumption) | (with_reducible exact Below.refl _ _) | (with_reducible refine Blk.drewN ?_ _) | (with_reducible refine RowIn.drewN ?_ _) | (with_reducible refine below_drewN ?_ _) | (with_reducible refine Blk.drew ?_) | (with_reducible refine RowIn.drew ?_) | (with_reducible refine Below.drew ?_) | (with_reducible refine Blk.new' ?_ ?_ <;> first | (with_reducible rfl) | (simp; done)) | (with_reducible refine Blk.alloc ?_ _) | (with_reducible refine RowIn.alloc ?_ _) | (with_reducible refine Below.alloc ?_ ?_ _) | (with_reducible apply Blk.set') | (with_reducible apply Blk.far') | (with_reducible refine RowIn.far' ?_ ?_ _) | (with_reducible refine Below.far' ?_ ?_ _) | (exact (Eq.refl _ : (_ : List Value) = _)) | omega | go_size)
  case round =>
    obtain ⟨i, n', p0, p1, q0, q1, m', c', j, d, lo, hi, A', B, r, us, zs, hi2, rfl, rfl, HG, HFO, hjn, hcA, HZ, own5, zs_5, zr_5, ra_5, hlo, hhi, bb_5, sw1⟩ := hrel
    have HAR := Lib.hid hri
    clear hri
    have rt_5 := hti.below bb_5 (Nat.le_refl _)
    have s5 := bb_5.size
    have ks_5 := zs_5.cell; have fs_5 := zs_5.frozen; have ls_5 := zs_5.lt
    have kr_5 := zr_5.cell; have fr_5 := zr_5.frozen; have lr_5 := zr_5.lt
    by_cases hlt : i < nb
    · have hrl := HFO.out.short
      have hlti : (i : Int) < (nb : Int) := by omega
      obtain ⟨bd, od, rfl, hD1, hD2, hD3, hdcell⟩ := hd.2 (by omega)
      obtain ⟨Ap, np, cp, hvp, hcp, hrp⟩ := HPS.out.2 i (by rw [HVL.out]; omega)
      have c0 : wr.cell? ⟨bd, od + i, none⟩ = some (.slice Ap np cp) := (bb_5.cell (p := ⟨bd, od + i, none⟩) hD2).trans ((hdcell i (by omega)).trans hvp)
      obtain ⟨px, HPX⟩ : ∃ px, Hid (px = ps.getD i []) := ⟨_, Lib.hid rfl⟩
      rw [← HPX.out] at hrp
      have hxp : Within 0 255 px ∧ px.length ≤ 41000 := by rw [HPX.out]; exact getD_within HXS.out i
      obtain ⟨hxp, hpl⟩ := hxp
      have hnp : np ≤ 41000 := by rw [← hrp.len]; exact hpl
      have hpi := hrp.rowIn
      have rp_5 := hpi.below bb_5 (Nat.le_refl _)
      have HXP := Lib.hid hxp
      have hlbd : bd < wr.heap.size := by omega
      have hnx : feed n ⟨x0, x1, y0, y1⟩ (bs ++ unpack (ps.take (i + 1)).flatten) = (feed n' ⟨p0, p1, q0, q1⟩ (r ++ unpack px)).app us := by
        rw [flat_next ps i (by rw [← HPL.out, HVL.out]; omega), ← HPX.out]; exact feed_pieces HF.out.1 HG.out
      have HNX := Lib.hid hnx
      have HDC := Lib.hid hdcell
      have C0 : Hid (w.cell? ⟨bd, od + i, none⟩ = some (.slice Ap np cp)) := Lib.hid ((hdcell i (by omega)).trans hvp)
      clear hnx hxp hpl hdcell hvp hpi hrp
      go_wp2_with fail
      have HOB : Hid (∀ q, blockOf B = some q → q < wr.heap.size) := Lib.hid (fun q h => (own5.block q h).2)
      cases hfd : feed n' ⟨p0, p1, q0, q1⟩ (r ++ unpack px) with
      | err er =>
        have HFD := Lib.hid hfd
        have hnx := HNX.out
        rw [hfd] at hnx
        have HFIN : Hid (feed n ⟨x0, x1, y0, y1⟩ (bs ++ unpack ps.flatten) = .err er) := Lib.hid (by rw [flat_split ps (i + 1)]; exact feed_piecee HF.out.1 hnx)
        have hee := feed_err HFO.out.1 hfd
        have he1 : ((er : Int) != 0) = true := by rcases hee with rfl | rfl <;> rfl
        have he2 : ((er : Int) == 0) = false := by rcases hee with rfl | rfl <;> rfl
        clear hnx hfd hee
        apply merge2 (fun (gy : Nat) (wz : World) => wr.heap.size ≤ gy ∧ Blk wz (w.heap.size) 40 [.int .i64 (n' : Int), .int .i64 (p0 : Int), .int .i64 (p1 : Int), .int .u64 (q0 : Int), .int .u64 (q1 : Int), .slice A' m' c', .int .i64 (((r.length : Nat)) : Int)] ∧ Blk wz (w.heap.size + 1) 40 [.int .i64 0, .int .i64 0, .int .i64 0, .int .u64 0, .int .u64 0, .slice none 0 0, .int .i64 0] ∧ RowIn .u8 wz (lo) (hi) A' m' (pack r) ∧ RowIn .u8 wz (0) (w.heap.size) (some ⟨0, 0, none⟩) 64 dbTab ∧ RowIn .u8 wz (0) (w.heap.size) Ap np px ∧ Below w.heap.size w wz ∧ wr.heap.size ≤ wz.heap.size)
        case main =>
          intro key
          have na_0 : w.heap.size ≤ wr.heap.size := by omega
          have nas_0 : w.heap.size ≠ wr.heap.size := by omega
          have nar_0 : w.heap.size + 1 ≠ wr.heap.size := by omega
          have nra_0 : wr.heap.size < lo ∨ hi ≤ wr.heap.size := by omega
          have nrt_0 : wr.heap.size < 0 ∨ w.heap.size ≤ wr.heap.size := by omega
          have nrp_0 : wr.heap.size < 0 ∨ w.heap.size ≤ wr.heap.size := by omega
          go_region_held3 (fun w' => (∀ a, w'.cell? ⟨w.heap.size, a, none⟩ = [.int .i64 (n' : Int), .int .i64 (p0 : Int), .int .i64 (p1 : Int), .int .u64 (q0 : Int), .int .u64 (q1 : Int), .slice A' m' c', .int .i64 (((r.length : Nat)) : Int)][a]?) ∧ w'.cell? ⟨bd, od + i, none⟩ = some (.slice Ap np cp)) (first | with_reducible exact ⟨ks_5, c0⟩ | (refine ⟨Blk.cell (t := 40) ?_, (Below.cell (p := ⟨bd, od + i, none⟩) (B := w.heap.size) (w := w) ?_ hD2).trans C0.out⟩; all_goals repeat' (first | (with_reducible assumption) | (with_reducible exact Below.refl _ _) | (with_reducible refine Blk.drewN ?_ _) | (with_reducible refine RowIn.drewN ?_ _) | (with_reducible refine below_drewN ?_ _) | (with_reducible refine Blk.drew ?_) | (with_reducible refine RowIn.drew ?_) | (with_reducible refine Below.drew ?_) | (with_reducible refine Blk.new' ?_ ?_ <;> first | (with_reducible rfl) | (simp; done)) | (with_reducible refine Blk.alloc ?_ _) | (with_reducible refine RowIn.alloc ?_ _) | (with_reducible refine Below.alloc ?_ ?_ _) | (with_reducible apply Blk.set') | (with_reducible apply Blk.far4) | (with_reducible apply RowIn.far4) | (with_reducible apply Below.far4) | (with_reducible apply Blk.far2) | (with_reducible apply RowIn.far2) | (with_reducible apply Below.far2) | (with_reducible apply Blk.far') | (with_reducible refine RowIn.far' ?_ ?_ _) | (with_reducible refine Below.far' ?_ ?_ _) | (with_reducible refine Blk.after ?_ bq) | (with_reducible refine RowIn.belowS ?_ bq) | (with_reducible refine Below.after ?_ bq ?_) | (exact (Eq.refl _ : (_ : List Value) = _)) | omega | go_size))) (
            (go_simp; go_at_call 24; refine (rfeed_e n' p0 p1 q0 q1 m' c' A' r Ap np cp px _ (by omega) HFO.out (by exact RowIn.row (lo := lo) (hi := hi) (by repeat' (first | (with_reducible assumption) | (with_reducible exact Below.refl _ _) | (with_reducible refine Blk.drewN ?_ _) | (with_reducible refine RowIn.drewN ?_ _) | (with_reducible refine below_drewN ?_ _) | (with_reducible refine Blk.drew ?_) | (with_reducible refine RowIn.drew ?_) | (with_reducible refine Below.drew ?_) | (with_reducible refine Blk.new' ?_ ?_ <;> first | (with_reducible rfl) | (simp; done)) | (with_reducible refine Blk.alloc ?_ _) | (with_reducible refine RowIn.alloc ?_ _) | (with_reducible refine Below.alloc ?_ ?_ _) | (with_reducible apply Blk.set') | (with_reducible apply Blk.far') | (with_reducible refine RowIn.far' ?_ ?_ _) | (with_reducible refine Below.far' ?_ ?_ _) | (exact (Eq.refl _ : (_ : List Value) = _)) | omega | go_size))) hcA (by exact RowIn.row (lo := 0) (hi := w.heap.size) (by repeat' (first | (with_reducible assumption) | (with_reducible exact Below.refl _ _) | (with_reducible refine Blk.drewN ?_ _) | (with_reducible refine RowIn.drewN ?_ _) | (with_reducible refine below_drewN ?_ _) | (with_reducible refine Blk.drew ?_) | (with_reducible refine RowIn.drew ?_) | (with_reducible refine Below.drew ?_) | (with_reducible refine Blk.new' ?_ ?_ <;> first | (with_reducible rfl) | (simp; done)) | (with_reducible refine Blk.alloc ?_ _) | (with_reducible refine RowIn.alloc ?_ _) | (with_reducible refine Below.alloc ?_ ?_ _) | (with_reducible apply Blk.set') | (with_reducible apply Blk.far') | (with_reducible refine RowIn.far' ?_ ?_ _) | (with_reducible refine Below.far' ?_ ?_ _) | (exact (Eq.refl _ : (_ : List Value) = _)) | omega | go_size))) hcp HXP.out (by exact RowIn.row (lo := 0) (hi := w.heap.size) (by repeat' (first | (with_reducible assumption) | (with_reducible exact Below.refl _ _) | (with_reducible refine Blk.drewN ?_ _) | (with_reducible refine RowIn.drewN ?_ _) | (with_reducible refine below_drewN ?_ _) | (with_reducible refine Blk.drew ?_) | (with_reducible refine RowIn.drew ?_) | (with_reducible refine Below.drew ?_) | (with_reducible refine Blk.new' ?_ ?_ <;> first | (with_reducible rfl) | (simp; done)) | (with_reducible refine Blk.alloc ?_ _) | (with_reducible refine RowIn.alloc ?_ _) | (with_reducible refine Below.alloc ?_ ?_ _) | (with_reducible apply Blk.set') | (with_reducible apply Blk.far') | (with_reducible refine RowIn.far' ?_ ?_ _) | (with_reducible refine Below.far' ?_ ?_ _) | (exact (Eq.refl _ : (_ : List Value) = _)) | omega | go_size))) hnp HFD.out).mono ?_; rintro e wq ⟨bq, rfl⟩
             have sq := bq.size
             try simp only [World.size_alloc, World.size_setCell, World.size_drew, size_drewN] at sq
             obtain ⟨zs_q, zr_q, ra_q, rt_q, rp_q, bb_q⟩ : Blk wq (w.heap.size) 40 [.int .i64 (n' : Int), .int .i64 (p0 : Int), .int .i64 (p1 : Int), .int .u64 (q0 : Int), .int .u64 (q1 : Int), .slice A' m' c', .int .i64 (((r.length : Nat)) : Int)] ∧ Blk wq (w.heap.size + 1) 40 [.int .i64 0, .int .i64 0, .int .i64 0, .int .u64 0, .int .u64 0, .slice none 0 0, .int .i64 0] ∧ RowIn .u8 wq (lo) (hi) A' m' (pack r) ∧ RowIn .u8 wq (0) (w.heap.size) (some ⟨0, 0, none⟩) 64 dbTab ∧ RowIn .u8 wq (0) (w.heap.size) Ap np px ∧ Below w.heap.size w wq := (by
               refine ⟨?_, ?_, ?_, ?_, ?_, ?_⟩
               all_goals repeat' (first | (with_reducible assumption) | (with_reducible exact Below.refl _ _) | (with_reducible refine Blk.drewN ?_ _) | (with_reducible refine RowIn.drewN ?_ _) | (with_reducible refine below_drewN ?_ _) | (with_reducible refine Blk.drew ?_) | (with_reducible refine RowIn.drew ?_) | (with_reducible refine Below.drew ?_) | (with_reducible refine Blk.new' ?_ ?_ <;> first | (with_reducible rfl) | (simp; done)) | (with_reducible refine Blk.alloc ?_ _) | (with_reducible refine RowIn.alloc ?_ _) | (with_reducible refine Below.alloc ?_ ?_ _) | (with_reducible apply Blk.set') | (with_reducible apply Blk.far4) | (with_reducible apply RowIn.far4) | (with_reducible apply Below.far4) | (with_reducible apply Blk.far2) | (with_reducible apply RowIn.far2) | (with_reducible apply Below.far2) | (with_reducible apply Blk.far') | (with_reducible refine RowIn.far' ?_ ?_ _) | (with_reducible refine Below.far' ?_ ?_ _) | (with_reducible refine Blk.after ?_ bq) | (with_reducible refine RowIn.belowS ?_ bq) | (with_reducible refine Below.after ?_ bq ?_) | (exact (Eq.refl _ : (_ : List Value) = _)) | omega | go_size))
             have own_q : Own wq w.heap.size 55 .u32 B j d zs := (by
               repeat' (first | (with_reducible exact own5) | (with_reducible refine Own.drew ?_) | (with_reducible refine Own.alloc ?_ _) | (refine Own.below ?_ bq (Nat.le_refl _))))
             try (with_reducible (have zq1 := Blk.after (Blk.drew (Blk.new' (g := wr.heap.size) (t := 40) (l := [.int .i64 0, .int .i64 0, .int .i64 0, .int .u64 0, .int .u64 0, .slice none 0 0, .int .i64 0]) rfl rfl)) bq); have kq1 := zq1.cell; have fq1 := zq1.frozen; have lq1 := zq1.lt)))
          all_goals
            refine gen_world (fun wz hwz => ?_)
            first
            | (generalize hg0 : wq.heap.size = gy; refine key gy wz ?_; subst hg0; subst hwz; refine ⟨?_, ?_, ?_, ?_, ?_, ?_, ?_, ?_⟩ <;> ((repeat' (first | (with_reducible assumption) | (with_reducible exact Below.refl _ _) | (with_reducible refine Blk.new' ?_ ?_ <;> first | (with_reducible rfl) | (simp; done)) | (with_reducible refine Blk.alloc ?_ _) | (with_reducible refine RowIn.alloc ?_ _) | (with_reducible refine Below.alloc ?_ ?_ _) | (with_reducible refine Own.alloc ?_ _) | (with_reducible apply Blk.set7) | (with_reducible refine Blk.far7 ?_ ?_) | (with_reducible refine RowIn.far7 ?_ ?_) | (with_reducible refine Below.far7 ?_ ?_) | (with_reducible refine Own.far7 ?_ ?_) | (exact (Eq.refl _ : (_ : List Value) = _)) | omega | go_size)); done))
            | (generalize hg0 : wr.heap.size = gy; refine key gy wz ?_; subst hg0; subst hwz; refine ⟨?_, ?_, ?_, ?_, ?_, ?_, ?_, ?_⟩ <;> ((repeat' (first | (with_reducible assumption) | (with_reducible exact Below.refl _ _) | (with_reducible refine Blk.new' ?_ ?_ <;> first | (with_reducible rfl) | (simp; done)) | (with_reducible refine Blk.alloc ?_ _) | (with_reducible refine RowIn.alloc ?_ _) | (with_reducible refine Below.alloc ?_ ?_ _) | (with_reducible refine Own.alloc ?_ _) | (with_reducible apply Blk.set7) | (with_reducible refine Blk.far7 ?_ ?_) | (with_reducible refine RowIn.far7 ?_ ?_) | (with_reducible refine Below.far7 ?_ ?_) | (with_reducible refine Own.far7 ?_ ?_) | (exact (Eq.refl _ : (_ : List Value) = _)) | omega | go_size)); done))
        case k =>
          intro gy w6 hF
          obtain ⟨hgy, zs_6, zr_6, ra_6, rt_6, rp_6, bb_6, s6⟩ := hF
          clear rp_5
          have ks_6 := zs_6.cell; have fs_6 := zs_6.frozen; have ls_6 := zs_6.lt
          have kr_6 := zr_6.cell; have fr_6 := zr_6.frozen; have lr_6 := zr_6.lt
          go_wp2
          all_goals try (go_region; all_goals go_wp2)
          refine bodyPost_ret (v := .tuple #[.agg #[.int .i64 0, .int .i64 0, .int .i64 0, .int .u64 0, .int .u64 0, .slice none 0 0, .int .i64 0], .slice none 0 0, .int .i64 (er : Int)]) (by simp [results, Tryd.results39, go_sem, kr_6, lr_6, fr_6]) rfl ?_
          rw [HFIN.out]
          refine geeds_err ⟨rfl, ?_⟩
          repeat' (first | (with_reducible assumption) | (with_reducible exact Below.refl _ _) | (with_reducible refine Blk.drewN ?_ _) | (with_reducible refine RowIn.drewN ?_ _) | (with_reducible refine below_drewN ?_ _) | (with_reducible refine Blk.drew ?_) | (with_reducible refine RowIn.drew ?_) | (with_reducible refine Below.drew ?_) | (with_reducible refine Blk.new' ?_ ?_ <;> first | (with_reducible rfl) | (simp; done)) | (with_reducible refine Blk.alloc ?_ _) | (with_reducible refine RowIn.alloc ?_ _) | (with_reducible refine Below.alloc ?_ ?_ _) | (with_reducible apply Blk.set') | (with_reducible apply Blk.far') | (with_reducible refine RowIn.far' ?_ ?_ _) | (with_reducible refine Below.far' ?_ ?_ _) | (exact (Eq.refl _ : (_ : List Value) = _)) | omega | go_size)
      | ok vs2 n2 d2 r2 =>
        obtain ⟨⟨t0, t1, t2, t3⟩, hd2⟩ : ∃ q, q = d2 := ⟨_, rfl⟩
        subst hd2
        have hnx := HNX.out
        rw [hfd] at hnx
        have HNX2 := Lib.hid hnx
        obtain ⟨f1, f2, f3, f4, f5⟩ := feed_ok HFO.out.1 hfd
        have HFD := Lib.hid hfd
        have HF1 := Lib.hid f1
        clear hnx hfd f1 f3 f4 f5 HNX
        apply merge10 (fun (Ax : Option Addr) (mx : Nat) (cx : Nat) (xx : List Bool) (Bx : Option Addr) (kx : Nat) (dx : Nat) (zx : List Int) (gy : Nat) (wz : World) => Blk wz gy 40 [.int .i64 (n2 : Int), .int .i64 (t0 : Int), .int .i64 (t1 : Int), .int .u64 (t2 : Int), .int .u64 (t3 : Int), .slice Ax mx cx, .int .i64 (((xx.length : Nat)) : Int)] ∧ (mx ≤ cx ∧ cx ≤ 9223372036854775807) ∧ Hid (xx = r2) ∧ (kx ≤ dx ∧ dx ≤ 9223372036854775807) ∧ Hid (zx = ints vs2) ∧ wr.heap.size ≤ gy ∧ (∃ lo hi : Nat, wr.heap.size ≤ lo ∧ hi ≤ wz.heap.size ∧ RowIn .u8 wz lo hi Ax mx (pack xx)) ∧ (∃ lo hi : Nat, wr.heap.size ≤ lo ∧ hi ≤ wz.heap.size ∧ RowIn .u32 wz lo hi Bx kx zx) ∧ Own wz w.heap.size 55 .u32 B j d zs ∧ Blk wz (w.heap.size) 40 [.int .i64 (n' : Int), .int .i64 (p0 : Int), .int .i64 (p1 : Int), .int .u64 (q0 : Int), .int .u64 (q1 : Int), .slice A' m' c', .int .i64 (((r.length : Nat)) : Int)] ∧ Blk wz (w.heap.size + 1) 40 [.int .i64 0, .int .i64 0, .int .i64 0, .int .u64 0, .int .u64 0, .slice none 0 0, .int .i64 0] ∧ RowIn .u8 wz (lo) (hi) A' m' (pack r) ∧ RowIn .u8 wz (0) (w.heap.size) (some ⟨0, 0, none⟩) 64 dbTab ∧ RowIn .u8 wz (0) (w.heap.size) Ap np px ∧ Below w.heap.size w wz ∧ wr.heap.size ≤ wz.heap.size)
        case main =>
          intro key
          have na_0 : w.heap.size ≤ wr.heap.size := by omega
          have nas_0 : w.heap.size ≠ wr.heap.size := by omega
          have nar_0 : w.heap.size + 1 ≠ wr.heap.size := by omega
          have nra_0 : wr.heap.size < lo ∨ hi ≤ wr.heap.size := by omega
          have nrt_0 : wr.heap.size < 0 ∨ w.heap.size ≤ wr.heap.size := by omega
          have nrp_0 : wr.heap.size < 0 ∨ w.heap.size ≤ wr.heap.size := by omega
          go_region_held3 (fun w' => (∀ a, w'.cell? ⟨w.heap.size, a, none⟩ = [.int .i64 (n' : Int), .int .i64 (p0 : Int), .int .i64 (p1 : Int), .int .u64 (q0 : Int), .int .u64 (q1 : Int), .slice A' m' c', .int .i64 (((r.length : Nat)) : Int)][a]?) ∧ w'.cell? ⟨bd, od + i, none⟩ = some (.slice Ap np cp)) (first | with_reducible exact ⟨ks_5, c0⟩ | (refine ⟨Blk.cell (t := 40) ?_, (Below.cell (p := ⟨bd, od + i, none⟩) (B := w.heap.size) (w := w) ?_ hD2).trans C0.out⟩; all_goals repeat' (first | (with_reducible assumption) | (with_reducible exact Below.refl _ _) | (with_reducible refine Blk.drewN ?_ _) | (with_reducible refine RowIn.drewN ?_ _) | (with_reducible refine below_drewN ?_ _) | (with_reducible refine Blk.drew ?_) | (with_reducible refine RowIn.drew ?_) | (with_reducible refine Below.drew ?_) | (with_reducible refine Blk.new' ?_ ?_ <;> first | (with_reducible rfl) | (simp; done)) | (with_reducible refine Blk.alloc ?_ _) | (with_reducible refine RowIn.alloc ?_ _) | (with_reducible refine Below.alloc ?_ ?_ _) | (with_reducible apply Blk.set') | (with_reducible apply Blk.far4) | (with_reducible apply RowIn.far4) | (with_reducible apply Below.far4) | (with_reducible apply Blk.far2) | (with_reducible apply RowIn.far2) | (with_reducible apply Below.far2) | (with_reducible apply Blk.far') | (with_reducible refine RowIn.far' ?_ ?_ _) | (with_reducible refine Below.far' ?_ ?_ _) | (with_reducible refine Blk.after ?_ bq) | (with_reducible refine RowIn.belowS ?_ bq) | (with_reducible refine Below.after ?_ bq ?_) | (exact (Eq.refl _ : (_ : List Value) = _)) | omega | go_size))) (
            (go_simp; go_at_call 24; refine (rfeed_c n' p0 p1 q0 q1 m' c' A' r Ap np cp px _ (by omega) HFO.out (by exact RowIn.row (lo := lo) (hi := hi) (by repeat' (first | (with_reducible assumption) | (with_reducible exact Below.refl _ _) | (with_reducible refine Blk.drewN ?_ _) | (with_reducible refine RowIn.drewN ?_ _) | (with_reducible refine below_drewN ?_ _) | (with_reducible refine Blk.drew ?_) | (with_reducible refine RowIn.drew ?_) | (with_reducible refine Below.drew ?_) | (with_reducible refine Blk.new' ?_ ?_ <;> first | (with_reducible rfl) | (simp; done)) | (with_reducible refine Blk.alloc ?_ _) | (with_reducible refine RowIn.alloc ?_ _) | (with_reducible refine Below.alloc ?_ ?_ _) | (with_reducible apply Blk.set') | (with_reducible apply Blk.far') | (with_reducible refine RowIn.far' ?_ ?_ _) | (with_reducible refine Below.far' ?_ ?_ _) | (exact (Eq.refl _ : (_ : List Value) = _)) | omega | go_size))) hcA (by exact RowIn.row (lo := 0) (hi := w.heap.size) (by repeat' (first | (with_reducible assumption) | (with_reducible exact Below.refl _ _) | (with_reducible refine Blk.drewN ?_ _) | (with_reducible refine RowIn.drewN ?_ _) | (with_reducible refine below_drewN ?_ _) | (with_reducible refine Blk.drew ?_) | (with_reducible refine RowIn.drew ?_) | (with_reducible refine Below.drew ?_) | (with_reducible refine Blk.new' ?_ ?_ <;> first | (with_reducible rfl) | (simp; done)) | (with_reducible refine Blk.alloc ?_ _) | (with_reducible refine RowIn.alloc ?_ _) | (with_reducible refine Below.alloc ?_ ?_ _) | (with_reducible apply Blk.set') | (with_reducible apply Blk.far') | (with_reducible refine RowIn.far' ?_ ?_ _) | (with_reducible refine Below.far' ?_ ?_ _) | (exact (Eq.refl _ : (_ : List Value) = _)) | omega | go_size))) hcp HXP.out (by exact RowIn.row (lo := 0) (hi := w.heap.size) (by repeat' (first | (with_reducible assumption) | (with_reducible exact Below.refl _ _) | (with_reducible refine Blk.drewN ?_ _) | (with_reducible refine RowIn.drewN ?_ _) | (with_reducible refine below_drewN ?_ _) | (with_reducible refine Blk.drew ?_) | (with_reducible refine RowIn.drew ?_) | (with_reducible refine Below.drew ?_) | (with_reducible refine Blk.new' ?_ ?_ <;> first | (with_reducible rfl) | (simp; done)) | (with_reducible refine Blk.alloc ?_ _) | (with_reducible refine RowIn.alloc ?_ _) | (with_reducible refine Below.alloc ?_ ?_ _) | (with_reducible apply Blk.set') | (with_reducible apply Blk.far') | (with_reducible refine RowIn.far' ?_ ?_ _) | (with_reducible refine Below.far' ?_ ?_ _) | (exact (Eq.refl _ : (_ : List Value) = _)) | omega | go_size))) hnp HFD.out).mono ?_; rintro e wq ⟨mx, cx, kx, dx, Ax, Bx, xx, zx, rfl, hcx, HXx, rx, hdx, HZx, rz, bq⟩
             have sq := bq.size
             try simp only [World.size_alloc, World.size_setCell, World.size_drew, size_drewN] at sq
             obtain ⟨lox, hlox1, hlox2, rx, rz⟩ := pick_both rx rz
             try simp only [World.size_alloc, World.size_drew, size_drewN] at hlox1
             try simp only [World.size_alloc, World.size_drew, size_drewN] at hlox2
             obtain ⟨zs_q, zr_q, ra_q, rt_q, rp_q, bb_q⟩ : Blk wq (w.heap.size) 40 [.int .i64 (n' : Int), .int .i64 (p0 : Int), .int .i64 (p1 : Int), .int .u64 (q0 : Int), .int .u64 (q1 : Int), .slice A' m' c', .int .i64 (((r.length : Nat)) : Int)] ∧ Blk wq (w.heap.size + 1) 40 [.int .i64 0, .int .i64 0, .int .i64 0, .int .u64 0, .int .u64 0, .slice none 0 0, .int .i64 0] ∧ RowIn .u8 wq (lo) (hi) A' m' (pack r) ∧ RowIn .u8 wq (0) (w.heap.size) (some ⟨0, 0, none⟩) 64 dbTab ∧ RowIn .u8 wq (0) (w.heap.size) Ap np px ∧ Below w.heap.size w wq := (by
               refine ⟨?_, ?_, ?_, ?_, ?_, ?_⟩
               all_goals repeat' (first | (with_reducible assumption) | (with_reducible exact Below.refl _ _) | (with_reducible refine Blk.drewN ?_ _) | (with_reducible refine RowIn.drewN ?_ _) | (with_reducible refine below_drewN ?_ _) | (with_reducible refine Blk.drew ?_) | (with_reducible refine RowIn.drew ?_) | (with_reducible refine Below.drew ?_) | (with_reducible refine Blk.new' ?_ ?_ <;> first | (with_reducible rfl) | (simp; done)) | (with_reducible refine Blk.alloc ?_ _) | (with_reducible refine RowIn.alloc ?_ _) | (with_reducible refine Below.alloc ?_ ?_ _) | (with_reducible apply Blk.set') | (with_reducible apply Blk.far4) | (with_reducible apply RowIn.far4) | (with_reducible apply Below.far4) | (with_reducible apply Blk.far2) | (with_reducible apply RowIn.far2) | (with_reducible apply Below.far2) | (with_reducible apply Blk.far') | (with_reducible refine RowIn.far' ?_ ?_ _) | (with_reducible refine Below.far' ?_ ?_ _) | (with_reducible refine Blk.after ?_ bq) | (with_reducible refine RowIn.belowS ?_ bq) | (with_reducible refine Below.after ?_ bq ?_) | (exact (Eq.refl _ : (_ : List Value) = _)) | omega | go_size))
             have own_q : Own wq w.heap.size 55 .u32 B j d zs := (by
               repeat' (first | (with_reducible exact own5) | (with_reducible refine Own.drew ?_) | (with_reducible refine Own.alloc ?_ _) | (refine Own.below ?_ bq (Nat.le_refl _))))
             try (with_reducible (have zq1 := Blk.after (Blk.drew (Blk.new' (g := wr.heap.size) (t := 40) (l := [.int .i64 0, .int .i64 0, .int .i64 0, .int .u64 0, .int .u64 0, .slice none 0 0, .int .i64 0]) rfl rfl)) bq); have kq1 := zq1.cell; have fq1 := zq1.frozen; have lq1 := zq1.lt)))
          all_goals
            refine gen_world (fun wz hwz => ?_)
            first
            | (generalize hg0 : wq.heap.size = gy; refine key Ax mx cx xx Bx kx dx zx gy wz ?_; subst hg0; subst hwz; refine ⟨?_, ?_, ?_, ?_, ?_, ?_, ?_, ?_, ?_, ?_, ?_, ?_, ?_, ?_, ?_, ?_⟩ <;> ((repeat' (first | (refine ⟨lox, wq.heap.size, by omega, by go_size, ?_⟩) | (refine ⟨lox, wq.heap.size, by omega, by go_size, ?_⟩) | (exact fun h => absurd (HOB.out _ h) (by omega)) | (with_reducible assumption) | (with_reducible exact Below.refl _ _) | (with_reducible refine Blk.new' ?_ ?_ <;> first | (with_reducible rfl) | (simp; done)) | (with_reducible refine Blk.alloc ?_ _) | (with_reducible refine RowIn.alloc ?_ _) | (with_reducible refine Below.alloc ?_ ?_ _) | (with_reducible refine Own.alloc ?_ _) | (with_reducible apply Blk.set7) | (with_reducible refine Blk.far7 ?_ ?_) | (with_reducible refine RowIn.far7 ?_ ?_) | (with_reducible refine Below.far7 ?_ ?_) | (with_reducible refine Own.far7 ?_ ?_) | (exact (Eq.refl _ : (_ : List Value) = _)) | omega | go_size)); done))
            | (generalize hg0 : wr.heap.size = gy; refine key Ax mx cx xx Bx kx dx zx gy wz ?_; subst hg0; subst hwz; refine ⟨?_, ?_, ?_, ?_, ?_, ?_, ?_, ?_, ?_, ?_, ?_, ?_, ?_, ?_, ?_, ?_⟩ <;> ((repeat' (first | (refine ⟨lox, wq.heap.size, by omega, by go_size, ?_⟩) | (refine ⟨lox, wq.heap.size, by omega, by go_size, ?_⟩) | (exact fun h => absurd (HOB.out _ h) (by omega)) | (with_reducible assumption) | (with_reducible exact Below.refl _ _) | (with_reducible refine Blk.new' ?_ ?_ <;> first | (with_reducible rfl) | (simp; done)) | (with_reducible refine Blk.alloc ?_ _) | (with_reducible refine RowIn.alloc ?_ _) | (with_reducible refine Below.alloc ?_ ?_ _) | (with_reducible refine Own.alloc ?_ _) | (with_reducible apply Blk.set7) | (with_reducible refine Blk.far7 ?_ ?_) | (with_reducible refine RowIn.far7 ?_ ?_) | (with_reducible refine Below.far7 ?_ ?_) | (with_reducible refine Own.far7 ?_ ?_) | (exact (Eq.refl _ : (_ : List Value) = _)) | omega | go_size)); done))
        case k =>
          intro Ax mx cx xx Bx kx dx zx gy w6 hF
          obtain ⟨zy0, hcx, HXx, hdx, HZx, hgy, hrx, hrz, own6, zs_6, zr_6, ra_6, rt_6, rp_6, bb_6, s6⟩ := hF
          clear rp_5
          have ks_6 := zs_6.cell; have fs_6 := zs_6.frozen; have ls_6 := zs_6.lt
          have kr_6 := zr_6.cell; have fr_6 := zr_6.frozen; have lr_6 := zr_6.lt
          obtain ⟨lox, hix, hlox, hhix, rx0⟩ := hrx
          obtain ⟨loz, hiz, hloz, hhiz, rz0⟩ := hrz
          have zy_6 := zy0; have ky_6 := zy_6.cell; have fy_6 := zy_6.frozen; have ly_6 := zy_6.lt
          have hneS : blockOf B ≠ some (w.heap.size) := own6.ne_blk zs_6 (by decide)
          have hlz : kx = vs2.length := by rw [← rz0.len, HZx.out, ints_len]
          have HLZ := Lib.hid hlz
          have hkx1 : kx ≤ 4000 := by omega
          have hsw : w.heap.size ≤ w6.heap.size := by omega
          have hlz2 : w.heap.size < loz ∨ hiz ≤ w.heap.size := Or.inl (by omega)
          have hk3 : j + kx + n2 ≤ n := by omega
          clear hlz
          go_wp2_with (at_builtin; refine wpList_app _ u32E rfl _ _ rfl w.heap.size _ _ _ _ rfl (by exact own6.far7 hneS) _ _ _ zx rfl (by exact (rz0.far7 hlz2).row) (by omega) (by go_size) ?_)
          intro B8 d8 w8 own8 hg8 hat8
          have hneR : blockOf B ≠ some (w.heap.size + 1) := own6.ne_blk zr_6 (by decide)
          have zs_8 : Blk w8 (w.heap.size) 40 [.int .i64 (n2 : Int), .int .i64 (t0 : Int), .int .i64 (t1 : Int), .int .u64 (t2 : Int), .int .u64 (t3 : Int), .slice Ax mx cx, .int .i64 (((xx.length : Nat)) : Int)] := (Blk.set7 zs_6).grown hg8 (fun e => hneS e.symm)
          have zr_8 : Blk w8 (w.heap.size + 1) 40 [.int .i64 0, .int .i64 0, .int .i64 0, .int .u64 0, .int .u64 0, .slice none 0 0, .int .i64 0] := (Blk.far7 zr_6 (by omega)).grown hg8 (fun e => hneR e.symm)
          have ra_8 : RowIn .u8 w8 lox hix Ax mx (pack xx) := row_grown (RowIn.far7 rx0 (Or.inl (by omega))) hg8 (fun q e => Or.inl (by have := HOB.out q e; omega))
          have bb_8 : Below w.heap.size w w8 := (Below.far7 bb_6 (Nat.le_refl _)).grown hg8 (by go_size) (fun q e => (own6.block q e).1)
          have s8 : w6.heap.size ≤ w8.heap.size := by have h := hg8.size; simpa [World.setCell] using h
          have HZ2 : Hid (zs ++ zx = ints (us ++ vs2)) := Lib.hid (by rw [HZ.out, HZx.out, ints_app])
          have HG2 : Hid (feed n ⟨x0, x1, y0, y1⟩ (bs ++ unpack (ps.take (i + 1)).flatten) = .ok (us ++ vs2) n2 ⟨t0, t1, t2, t3⟩ xx) := Lib.hid (by rw [HNX2.out, HXx.out]; rfl)
          have HFO2 : Hid (FOk n2 ⟨t0, t1, t2, t3⟩ xx) := Lib.hid (by rw [HXx.out]; exact HF1.out)
          clear hg8 hat8
          go_wp2
          go_roundg (nb - (i + 1))
          case measure => omega
          case rel => exact ⟨i + 1, n2, t0, t1, t2, t3, mx, cx, j + kx, d8, lox, hix, Ax, B8, xx, us ++ vs2, zs ++ zx, by omega, by go_num, rfl, HG2, HFO2, hk3, hcx, HZ2, own8, zs_8, zr_8, ra_8, Or.inl (by omega), by omega, bb_8, by omega⟩
    · obtain rfl : i = nb := by omega
      have HG2 : Hid (feed n ⟨x0, x1, y0, y1⟩ (bs ++ unpack ps.flatten) = .ok us n' ⟨p0, p1, q0, q1⟩ r) := Lib.hid (by have h := HG.out; rwa [List.take_of_length_le (by rw [← HPL.out, HVL.out]; omega)] at h)
      have hcap := own5.rowC.2
      have hneR : blockOf B ≠ some (w.heap.size + 1) := own5.ne_blk zr_5 (by decide)
      clear HG
      go_wp2
      all_goals try (go_region; all_goals go_wp2)
      all_goals
        refine bodyPost_ret (v := .tuple #[.agg #[.int .i64 (n' : Int), .int .i64 (p0 : Int), .int .i64 (p1 : Int), .int .u64 (q0 : Int), .int .u64 (q1 : Int), .slice A' m' c', .int .i64 (((r.length : Nat)) : Int)], .slice B j d, .int .i64 0]) (by simp [results, Tryd.results39, go_sem, ks_5, ls_5, fs_5, kr_5, lr_5, fr_5]) rfl ?_
        rw [HG2.out]
        refine ⟨?_, p0, p1, q0, q1, m', c', j, d, A', B, r, zs, rfl, Lib.hid rfl, hcA, Lib.hid rfl, ?_, hcap, HZ, ?_⟩
        · repeat' (first | (with_reducible assumption) | (with_reducible exact Below.refl _ _) | (with_reducible refine Blk.drewN ?_ _) | (with_reducible refine RowIn.drewN ?_ _) | (with_reducible refine below_drewN ?_ _) | (with_reducible refine Blk.drew ?_) | (with_reducible refine RowIn.drew ?_) | (with_reducible refine Below.drew ?_) | (with_reducible refine Blk.new' ?_ ?_ <;> first | (with_reducible rfl) | (simp; done)) | (with_reducible refine Blk.alloc ?_ _) | (with_reducible refine RowIn.alloc ?_ _) | (with_reducible refine Below.alloc ?_ ?_ _) | (with_reducible apply Blk.set') | (with_reducible apply Blk.far') | (with_reducible refine RowIn.far' ?_ ?_ _) | (with_reducible refine Below.far' ?_ ?_ _) | (exact (Eq.refl _ : (_ : List Value) = _)) | omega | go_size)
        · refine RowIn.mono (lo := lo) (hi := hi) ?_ (Nat.zero_le _) (by go_size)
          repeat' (first | (with_reducible assumption) | (with_reducible exact Below.refl _ _) | (with_reducible refine Blk.drewN ?_ _) | (with_reducible refine RowIn.drewN ?_ _) | (with_reducible refine below_drewN ?_ _) | (with_reducible refine Blk.drew ?_) | (with_reducible refine RowIn.drew ?_) | (with_reducible refine Below.drew ?_) | (with_reducible refine Blk.new' ?_ ?_ <;> first | (with_reducible rfl) | (simp; done)) | (with_reducible refine Blk.alloc ?_ _) | (with_reducible refine RowIn.alloc ?_ _) | (with_reducible refine Below.alloc ?_ ?_ _) | (with_reducible apply Blk.set') | (with_reducible apply Blk.far') | (with_reducible refine RowIn.far' ?_ ?_ _) | (with_reducible refine Below.far' ?_ ?_ _) | (exact (Eq.refl _ : (_ : List Value) = _)) | omega | go_size)
        · refine RowIn.mono (lo := w.heap.size) ?_ (Nat.zero_le _) (Nat.le_refl _)
          refine Own.rowIn (base := w.heap.size) (e := 55) (c := d) ?_
          repeat' (first | (with_reducible exact own5) | (with_reducible refine Own.far' ?_ hneR _) | (with_reducible refine Own.drew ?_))


/-- What cutting ends in: pieces that are the bytes together. -/
def RetP (w : World) (xs : List Int) (n : Nat) (e : Ending) (w' : World) : Prop :=
  ∃ (D : Option Addr) (cb : Nat) (vs : List Value) (ps : List (List Int)), e = .returned (.slice D n cb) ∧ (n ≤ cb ∧ cb ≤ 9223372036854775807) ∧ RowV w' w.heap.size w'.heap.size D n vs ∧ Pieces w vs ps ∧ Hid (ps.flatten = xs) ∧ Below w.heap.size w w'
theorem row_rest {w : World} {A : Option Addr} {n c q : Nat} {xs : List Int} (h : Row .u8 w A n xs) (hq : q ≤ n) (hc : n ≤ c) : Row .u8 w (if c = q then A else A.map (·.add q)) (n - q) (xs.drop q) := by
  have h2 := h.part (lo := q) (hi := n) hq (Nat.le_refl _) hc
  rw [Nat.mul_one, List.take_of_length_le (by rw [List.length_drop, h.len]; omega)] at h2; exact h2
theorem row_firsts {w : World} {A : Option Addr} {n q : Nat} {xs : List Int} (h : Row .u8 w A n xs) (hq : q ≤ n) : Row .u8 w A q (xs.take q) := by
  refine ⟨by rw [List.length_take, h.len]; omega, fun hp => ?_⟩
  obtain ⟨b, off, e, h1, hc⟩ := h.2 (by omega)
  exact ⟨b, off, e, h1, fun i hi => by rw [hc i (by omega), nth_take hi]⟩

set_option maxRecDepth 100000 in
set_option maxHeartbeats 4000000 in
theorem cut_ok (A : Option Addr) (n c : Nat) (xs : List Int) (S : Option Addr) (ns cs : Nat) (ss : List Int) (w : World) (ha : RowC .u8 w A n c xs) (hs : Row .i64 w S ns ss) (hss : Within (-9223372036854775808) 9223372036854775807 ss) (hsc : ns ≤ cs ∧ cs ≤ 9223372036854775807) (hn : ns ≤ 1000) :
    Calls Tryd.prog 40 #[.slice A n c, .slice S ns cs] w (RetP w xs (ns + 1)) := by
  have hsi := hs.rowIn
  have HSL := Lib.hid hs.len
  have HXL := Lib.hid ha.row.len
  go_enter Tryd.func40, Tryd.ntmps40
  go_wp2_with fail
  go_loopg [0, 5, 6] ns (fun k vb vout vi wr => ∃ (i j q c' d : Nat) (A' B : Option Addr) (vs : List Value) (ps : List (List Int)), i + k = ns ∧ vi = .int .i64 (i : Nat) ∧ vb = .slice A' j c' ∧ vout = .slice B i d ∧ j + q = n ∧ Row .u8 w A' j (xs.drop q) ∧ (j ≤ c' ∧ c' ≤ 9223372036854775807) ∧ Hid (Pieces w vs ps) ∧ Hid (ps.flatten = xs.take q) ∧ OwnV wr w.heap.size 22 B i d vs ∧ Below w.heap.size w wr)
  case atStart => exact ⟨0, n, 0, c, 0, A, none, [], [], by omega, rfl, rfl, rfl, by omega, ha.row, ha.2, Lib.hid (Pieces.nil w), Lib.hid rfl, OwnV.nil _ _ _, Below.refl _ _⟩
  case round =>
    obtain ⟨i, j, q, c', d, A', B, vs, ps, hik, rfl, rfl, rfl, hjq, HR, hcj, HP, HPF, own5, bb_5⟩ := hrel
    have s5 := bb_5.size
    by_cases hlt : i < ns
    · have hlti : (i : Int) < (ns : Int) := by omega
      obtain ⟨bl, ol, rfl, hbl, hcell⟩ := hs.at (by omega)
      obtain ⟨v, hv⟩ : ∃ v, nth ss i = v := ⟨_, rfl⟩
      have hvb := hss.nth (by decide) (by decide) i
      rw [hv] at hvb
      have c0 : wr.cell? ⟨bl, ol + i, none⟩ = some (.int .i64 v) := (bb_5.cell (p := ⟨bl, ol + i, none⟩) hbl).trans (by rw [hcell i (by omega), hv])
      have hlbd : bl < wr.heap.size := by omega
      clear hcell hv
      by_cases hvj : v < (j : Int)
      · by_cases hv1 : v ≤ 0
        · have hv2 : ¬ 0 < v := by omega
          have hz1 : 0 ≤ j := by omega
          have HR1 := row_firsts HR hz1
          have HR2 := row_rest HR hz1 hcj.1
          have HPF2 : Hid ((ps ++ [(xs.drop q).take (0)]).flatten = xs.take (q + 0)) := Lib.hid (by rw [List.flatten_append, HPF.out, List.take_add]; simp)
          have HD2 : Hid ((xs.drop q).drop (0) = xs.drop (q + 0)) := Lib.hid (by rw [List.drop_drop])
          rw [HD2.out] at HR2
          have HR2 := Lib.hid HR2
          clear HD2
          by_cases hcz : c' = 0
          · have HP2 := Lib.hid (HP.out.snoc (c := 0) (by omega) HR1)
            clear HR1
            go_wp2_with (at_builtin; refine wpList_appV _ bytesE rfl _ _ rfl w.heap.size _ _ _ _ rfl (by exact own5.alloc _) ⟨wr.heap.size, 0, none⟩ 1 1 [.slice A' (0) (0)] rfl rfl (fresh_cells (Blk.new' rfl rfl)) (by intro u hu; simp at hu; subst hu; rfl) (by omega) (by go_size) ?_)
            intro B8 d8 w8 own8 hg8 hat8
            have bb_8 : Below w.heap.size w w8 := (bb_5.alloc (by omega) _).grown hg8 (by go_size) (fun g e => (own5.block g e).1)
            clear hg8 hat8
            go_wp2
            go_roundg (ns - (i + 1))
            case measure => omega
            case rel => exact ⟨i + 1, j, q, 0, d8, A', B8, _, _, by omega, by go_num, rfl, rfl, by omega, HR, by omega, HP2, HPF2, own8, bb_8⟩
          · have HP2 := Lib.hid (HP.out.snoc (c := c') (by omega) HR1)
            clear HR1
            go_wp2_with (at_builtin; refine wpList_appV _ bytesE rfl _ _ rfl w.heap.size _ _ _ _ rfl (by exact own5.alloc _) ⟨wr.heap.size, 0, none⟩ 1 1 [.slice A' (0) (c')] rfl rfl (fresh_cells (Blk.new' rfl rfl)) (by intro u hu; simp at hu; subst hu; rfl) (by omega) (by go_size) ?_)
            intro B8 d8 w8 own8 hg8 hat8
            have bb_8 : Below w.heap.size w w8 := (bb_5.alloc (by omega) _).grown hg8 (by go_size) (fun g e => (own5.block g e).1)
            clear hg8 hat8
            go_wp2
            go_roundg (ns - (i + 1))
            case measure => omega
            case rel => exact ⟨i + 1, j, q, c', d8, A', B8, _, _, by omega, by go_num, rfl, rfl, by omega, HR, by omega, HP2, HPF2, own8, bb_8⟩
        · have hv2 : 0 < v := by omega
          obtain ⟨z, rfl⟩ := Int.eq_ofNat_of_zero_le (by omega : 0 ≤ v)
          have hz1 : z ≤ j := by omega
          have HR1 := row_firsts HR hz1
          have HR2 := row_rest HR hz1 hcj.1
          have HPF2 : Hid ((ps ++ [(xs.drop q).take (z)]).flatten = xs.take (q + z)) := Lib.hid (by rw [List.flatten_append, HPF.out, List.take_add]; simp)
          have HD2 : Hid ((xs.drop q).drop (z) = xs.drop (q + z)) := Lib.hid (by rw [List.drop_drop])
          rw [HD2.out] at HR2
          have HR2 := Lib.hid HR2
          clear HD2
          by_cases hcz : c' = z
          · exfalso
            omega
          · have HP2 := Lib.hid (HP.out.snoc (c := c') (by omega) HR1)
            clear HR1
            go_wp2_with (at_builtin; refine wpList_appV _ bytesE rfl _ _ rfl w.heap.size _ _ _ _ rfl (by exact own5.alloc _) ⟨wr.heap.size, 0, none⟩ 1 1 [.slice A' (z) (c')] rfl rfl (fresh_cells (Blk.new' rfl rfl)) (by intro u hu; simp at hu; subst hu; rfl) (by omega) (by go_size) ?_)
            intro B8 d8 w8 own8 hg8 hat8
            have bb_8 : Below w.heap.size w w8 := (bb_5.alloc (by omega) _).grown hg8 (by go_size) (fun g e => (own5.block g e).1)
            clear hg8 hat8
            go_wp2
            have HR3 := HR2.out
            rw [if_neg hcz] at HR3
            go_roundg (ns - (i + 1))
            case measure => omega
            case rel => exact ⟨i + 1, j - z, q + z, c' - z, d8, _, B8, _, _, by omega, by go_num, rfl, rfl, by omega, HR3, by omega, HP2, HPF2, own8, bb_8⟩
      · by_cases hv1 : j = 0
        · obtain rfl : j = 0 := hv1
          have hv3 : ((0 : Nat) : Int) = 0 := rfl
          have hz1 : 0 ≤ 0 := by omega
          have HR1 := row_firsts HR hz1
          have HR2 := row_rest HR hz1 hcj.1
          have HPF2 : Hid ((ps ++ [(xs.drop q).take (0)]).flatten = xs.take (q + 0)) := Lib.hid (by rw [List.flatten_append, HPF.out, List.take_add]; simp)
          have HD2 : Hid ((xs.drop q).drop (0) = xs.drop (q + 0)) := Lib.hid (by rw [List.drop_drop])
          rw [HD2.out] at HR2
          have HR2 := Lib.hid HR2
          clear HD2
          by_cases hcz : c' = 0
          · have HP2 := Lib.hid (HP.out.snoc (c := 0) (by omega) HR1)
            clear HR1
            go_wp2_with (at_builtin; refine wpList_appV _ bytesE rfl _ _ rfl w.heap.size _ _ _ _ rfl (by exact own5.alloc _) ⟨wr.heap.size, 0, none⟩ 1 1 [.slice A' (0) (0)] rfl rfl (fresh_cells (Blk.new' rfl rfl)) (by intro u hu; simp at hu; subst hu; rfl) (by omega) (by go_size) ?_)
            intro B8 d8 w8 own8 hg8 hat8
            have bb_8 : Below w.heap.size w w8 := (bb_5.alloc (by omega) _).grown hg8 (by go_size) (fun g e => (own5.block g e).1)
            clear hg8 hat8
            go_wp2
            go_roundg (ns - (i + 1))
            case measure => omega
            case rel => exact ⟨i + 1, 0, q, 0, d8, A', B8, _, _, by omega, by go_num, rfl, rfl, by omega, HR, by omega, HP2, HPF2, own8, bb_8⟩
          · have HP2 := Lib.hid (HP.out.snoc (c := c') (by omega) HR1)
            clear HR1
            go_wp2_with (at_builtin; refine wpList_appV _ bytesE rfl _ _ rfl w.heap.size _ _ _ _ rfl (by exact own5.alloc _) ⟨wr.heap.size, 0, none⟩ 1 1 [.slice A' (0) (c')] rfl rfl (fresh_cells (Blk.new' rfl rfl)) (by intro u hu; simp at hu; subst hu; rfl) (by omega) (by go_size) ?_)
            intro B8 d8 w8 own8 hg8 hat8
            have bb_8 : Below w.heap.size w w8 := (bb_5.alloc (by omega) _).grown hg8 (by go_size) (fun g e => (own5.block g e).1)
            clear hg8 hat8
            go_wp2
            go_roundg (ns - (i + 1))
            case measure => omega
            case rel => exact ⟨i + 1, 0, q, c', d8, A', B8, _, _, by omega, by go_num, rfl, rfl, by omega, HR, by omega, HP2, HPF2, own8, bb_8⟩
        · have hv2 : (0 : Int) < (j : Int) := by omega
          have hz1 : j ≤ j := by omega
          have HR1 := row_firsts HR hz1
          have HR2 := row_rest HR hz1 hcj.1
          have HPF2 : Hid ((ps ++ [(xs.drop q).take (j)]).flatten = xs.take (q + j)) := Lib.hid (by rw [List.flatten_append, HPF.out, List.take_add]; simp)
          have HD2 : Hid ((xs.drop q).drop (j) = xs.drop (q + j)) := Lib.hid (by rw [List.drop_drop])
          rw [HD2.out] at HR2
          have HR2 := Lib.hid HR2
          clear HD2
          by_cases hcz : c' = j
          · have HP2 := Lib.hid (HP.out.snoc (c := j) (by omega) HR1)
            clear HR1
            go_wp2_with (at_builtin; refine wpList_appV _ bytesE rfl _ _ rfl w.heap.size _ _ _ _ rfl (by exact own5.alloc _) ⟨wr.heap.size, 0, none⟩ 1 1 [.slice A' (j) (j)] rfl rfl (fresh_cells (Blk.new' rfl rfl)) (by intro u hu; simp at hu; subst hu; rfl) (by omega) (by go_size) ?_)
            intro B8 d8 w8 own8 hg8 hat8
            have bb_8 : Below w.heap.size w w8 := (bb_5.alloc (by omega) _).grown hg8 (by go_size) (fun g e => (own5.block g e).1)
            clear hg8 hat8
            go_wp2
            have HR3 := HR2.out
            rw [if_pos hcz] at HR3
            rw [Nat.sub_self] at HR3
            go_roundg (ns - (i + 1))
            case measure => omega
            case rel => exact ⟨i + 1, 0, q + j, 0, d8, _, B8, _, _, by omega, by go_num, rfl, rfl, by omega, HR3, by omega, HP2, HPF2, own8, bb_8⟩
          · have HP2 := Lib.hid (HP.out.snoc (c := c') (by omega) HR1)
            clear HR1
            go_wp2_with (at_builtin; refine wpList_appV _ bytesE rfl _ _ rfl w.heap.size _ _ _ _ rfl (by exact own5.alloc _) ⟨wr.heap.size, 0, none⟩ 1 1 [.slice A' (j) (c')] rfl rfl (fresh_cells (Blk.new' rfl rfl)) (by intro u hu; simp at hu; subst hu; rfl) (by omega) (by go_size) ?_)
            intro B8 d8 w8 own8 hg8 hat8
            have bb_8 : Below w.heap.size w w8 := (bb_5.alloc (by omega) _).grown hg8 (by go_size) (fun g e => (own5.block g e).1)
            clear hg8 hat8
            go_wp2
            have HR3 := HR2.out
            rw [if_neg hcz] at HR3
            rw [Nat.sub_self] at HR3
            go_roundg (ns - (i + 1))
            case measure => omega
            case rel => exact ⟨i + 1, 0, q + j, c' - j, d8, _, B8, _, _, by omega, by go_num, rfl, rfl, by omega, HR3, by omega, HP2, HPF2, own8, bb_8⟩
    · obtain rfl : i = ns := by omega
      have HP2 := Lib.hid (HP.out.snoc hcj HR)
      have HPF2 : Hid ((ps ++ [xs.drop q]).flatten = xs) := Lib.hid (by rw [List.flatten_append, HPF.out]; simp)
      go_wp2_with (at_builtin; refine wpList_appV _ bytesE rfl _ _ rfl w.heap.size _ _ _ _ rfl (by exact own5.alloc _) ⟨wr.heap.size, 0, none⟩ 1 1 [.slice A' j c'] rfl rfl (fresh_cells (Blk.new' rfl rfl)) (by intro u hu; simp at hu; subst hu; rfl) (by omega) (by go_size) ?_)
      intro B8 d8 w8 own8 hg8 hat8
      have bb_8 : Below w.heap.size w w8 := (bb_5.alloc (by omega) _).grown hg8 (by go_size) (fun g e => (own5.block g e).1)
      clear hg8 hat8
      go_wp2
      go_ret
      exact ⟨B8, d8, _, _, rfl, own8.cap, own8.rowV, HP2.out, HPF2, bb_8⟩


end Go.Proofs.YtppilidcjlnmoaaDoor

/-
  The walks of ResumePieces and ResumeBytes.
-/
namespace Go.Proofs.YtppilidcjlnmoaaDoor
open Go.RowKit Cad Cad.Bit Cad.Code
set_option linter.unusedVariables false
set_option linter.unusedSimpArgs false


/-- All of the state's values, where it is one. -/
theorem rs_nat {L p0 p1 q0 q1 : Int} {xs : List Int} {N : Int} (h : RS L p0 p1 q0 q1 xs N) :
    ∃ (n a0 a1 b0 b1 : Nat) (x : List Bool), L = n ∧ p0 = a0 ∧ p1 = a1 ∧ q0 = b0 ∧ q1 = b1 ∧ xs = pack x ∧ N = (x.length : Nat) ∧ x.length ≤ 330000 ∧ n ≤ 4000 ∧ FOk n ⟨a0, a1, b0, b1⟩ x := h


theorem feeds_c (n x0 x1 y0 y1 m c : Nat) (A : Option Addr) (bs : List Bool) (D : Option Addr) (nb cb : Nat) (vs : List Value) (ps : List (List Int)) {us : List Nat} {n2 u0 u1 v0 v1 : Nat} {r : List Bool} (w : World) (hn : n ≤ 4000) (hf : FOk n ⟨x0, x1, y0, y1⟩ bs) (ha : Row .u8 w A m (pack bs)) (hc : m ≤ c ∧ c ≤ 9223372036854775807) (hd : RowV w 0 w.heap.size D nb vs) (hdc : nb ≤ cb ∧ cb ≤ 9223372036854775807) (hp : Pieces w vs ps) (hx : ∀ p ∈ ps, Within 0 255 p ∧ p.length ≤ 41000) (ht : Tab w) (hb : nb ≤ 1000) (he : feed n ⟨x0, x1, y0, y1⟩ (bs ++ unpack ps.flatten) = .ok us n2 ⟨u0, u1, v0, v1⟩ r) :
    Calls Tryd.prog 39 #[.agg #[.int .i64 (n : Int), .int .i64 (x0 : Int), .int .i64 (x1 : Int), .int .u64 (y0 : Int), .int .u64 (y1 : Int), .slice A m c, .int .i64 (((bs.length : Nat)) : Int)], .slice D nb cb] w fun e w' => ∃ (m' c' k d : Nat) (A' B : Option Addr) (r' : List Bool) (zs : List Int), e = .returned (.tuple #[.agg #[.int .i64 (n2 : Int), .int .i64 (u0 : Int), .int .i64 (u1 : Int), .int .u64 (v0 : Int), .int .u64 (v1 : Int), .slice A' m' c', .int .i64 (((r'.length : Nat)) : Int)], .slice B k d, .int .i64 0]) ∧ (m' ≤ c' ∧ c' ≤ 9223372036854775807) ∧ Hid (r' = r) ∧ RowIn .u8 w' 0 w'.heap.size A' m' (pack r') ∧ (k ≤ d ∧ d ≤ 9223372036854775807) ∧ Hid (zs = ints us) ∧ RowIn .u32 w' 0 w'.heap.size B k zs ∧ Below w.heap.size w w' := by
  have h := feeds_ok n x0 x1 y0 y1 m c A bs D nb cb vs ps w hn hf ha hc hd hdc hp hx ht hb
  rw [he] at h
  refine h.mono ?_
  rintro e w' ⟨hbel, p0, p1, q0, q1, m', c', k, d, A', B, r', zs, rfl, HD, h1, h2, h3, h4, h5, h6⟩
  have hd2 := HD.out
  injection hd2 with e1 e2 e3 e4
  exact ⟨m', c', k, d, A', B, r', zs, by rw [e1, e2, e3, e4], h1, h2, h3, h4, h5, h6, hbel⟩
theorem feeds_e (n x0 x1 y0 y1 m c : Nat) (A : Option Addr) (bs : List Bool) (D : Option Addr) (nb cb : Nat) (vs : List Value) (ps : List (List Int)) {er : Nat} (w : World) (hn : n ≤ 4000) (hf : FOk n ⟨x0, x1, y0, y1⟩ bs) (ha : Row .u8 w A m (pack bs)) (hc : m ≤ c ∧ c ≤ 9223372036854775807) (hd : RowV w 0 w.heap.size D nb vs) (hdc : nb ≤ cb ∧ cb ≤ 9223372036854775807) (hp : Pieces w vs ps) (hx : ∀ p ∈ ps, Within 0 255 p ∧ p.length ≤ 41000) (ht : Tab w) (hb : nb ≤ 1000) (he : feed n ⟨x0, x1, y0, y1⟩ (bs ++ unpack ps.flatten) = .err er) :
    Calls Tryd.prog 39 #[.agg #[.int .i64 (n : Int), .int .i64 (x0 : Int), .int .i64 (x1 : Int), .int .u64 (y0 : Int), .int .u64 (y1 : Int), .slice A m c, .int .i64 (((bs.length : Nat)) : Int)], .slice D nb cb] w (RetG w (.err er)) := by
  have h := feeds_ok n x0 x1 y0 y1 m c A bs D nb cb vs ps w hn hf ha hc hd hdc hp hx ht hb
  rw [he] at h; exact h


theorem zv8 : ∀ (i : Nat) (v : Int), ([.int .i64 0, .int .i64 0, .int .i64 0, .int .u64 0, .int .u64 0, .slice none 0 0, .int .i64 0] : List Value)[i]? = some (.int .u8 v) → False := by
  intro i v h
  have := List.mem_of_getElem? h
  simp at this
theorem zv32 : ∀ (i : Nat) (v : Int), ([.int .i64 0, .int .i64 0, .int .i64 0, .int .u64 0, .int .u64 0, .slice none 0 0, .int .i64 0] : List Value)[i]? = some (.int .u32 v) → False := by
  intro i v h
  have := List.mem_of_getElem? h
  simp at this


set_option maxRecDepth 100000 in
set_option maxHeartbeats 2000000 in
theorem lawResumePieces (w : World) (ht : Tab w) (L : Int) (p0 p1 q0 q1 : Int) (hL : -9223372036854775808 ≤ L ∧ L ≤ 9223372036854775807) (hp0 : -9223372036854775808 ≤ p0 ∧ p0 ≤ 9223372036854775807) (hp1 : -9223372036854775808 ≤ p1 ∧ p1 ≤ 9223372036854775807) (hq0 : 0 ≤ q0 ∧ q0 ≤ 18446744073709551615) (hq1 : 0 ≤ q1 ∧ q1 ≤ 18446744073709551615) (As : Option Addr) (ns cs : Nat) (Ns : Int) (xss : List Int) (hAs : RowC .u8 w As ns cs xss) (hxs : Within 0 255 xss) (hNs : -9223372036854775808 ≤ Ns ∧ Ns ≤ 9223372036854775807) (Ab : Option Addr) (nb cb : Nat) (xsb : List Int) (hAb : RowC .u8 w Ab nb cb xsb) (hxb : Within 0 255 xsb) (Az : Option Addr) (nz cz : Nat) (xsz : List Int) (hAz : RowC .i64 w Az nz cz xsz) (hxz : Within (-9223372036854775808) 9223372036854775807 xsz) :
    Calls Tryd.prog 7 #[.agg #[.int .i64 (L : Int), .int .i64 (p0 : Int), .int .i64 (p1 : Int), .int .u64 (q0 : Int), .int .u64 (q1 : Int), .slice As ns cs, .int .i64 Ns], .slice Ab nb cb, .slice Az nz cz] w fun e w' => e = .returned (.bool true) ∧ Below w.heap.size w w' := by
  have has := hAs.row
  have hcs := hAs.2
  have hris := has.rowIn
  have hti : RowIn .u8 w 0 w.heap.size (some ⟨0, 0, none⟩) 64 dbTab := ht.rowIn
  have HLs := Lib.hid has.len
  have hab := hAb.row
  have hcb := hAb.2
  have hrib := hab.rowIn
  have HLb := Lib.hid hab.len
  have haz := hAz.row
  have hcz := hAz.2
  have hriz := haz.rowIn
  have HLz := Lib.hid haz.len
  by_cases hg : 190 < ns ∧ ns < 41230 ∨ 41350 < ns
  · go_enter Tryd.func7, Tryd.ntmps7
    go_wp2_with fail
    refine (rgreat_yes As ns cs _ _ hg).mono ?_
    rintro e w1 ⟨rfl, b1⟩
    have s1 := b1.size
    try simp only [World.size_alloc, World.size_setCell, World.size_drew, size_drewN] at s1
    obtain ⟨zs_1, rs_1, rt_1, rb_1, rz_1, bb_1⟩ : Blk w1 (w.heap.size) 40 [.int .i64 (L : Int), .int .i64 (p0 : Int), .int .i64 (p1 : Int), .int .u64 (q0 : Int), .int .u64 (q1 : Int), .slice As ns cs, .int .i64 Ns] ∧ RowIn .u8 w1 (0) (w.heap.size) As ns xss ∧ RowIn .u8 w1 (0) (w.heap.size) (some ⟨0, 0, none⟩) 64 dbTab ∧ RowIn .u8 w1 (0) (w.heap.size) Ab nb xsb ∧ RowIn .i64 w1 (0) (w.heap.size) Az nz xsz ∧ Below w.heap.size w w1 := by
      refine ⟨?_, ?_, ?_, ?_, ?_, ?_⟩
      all_goals repeat' (first | (with_reducible assumption) | (with_reducible exact Below.refl _ _) | (with_reducible refine Blk.drewN ?_ _) | (with_reducible refine RowIn.drewN ?_ _) | (with_reducible refine below_drewN ?_ _) | (with_reducible refine Blk.drew ?_) | (with_reducible refine RowIn.drew ?_) | (with_reducible refine Below.drew ?_) | (with_reducible refine Blk.new' ?_ ?_ <;> first | (with_reducible rfl) | (simp; done)) | (with_reducible refine Blk.alloc ?_ _) | (with_reducible refine RowIn.alloc ?_ _) | (with_reducible refine Below.alloc ?_ ?_ _) | (with_reducible apply Blk.set') | (with_reducible apply Blk.far') | (with_reducible refine RowIn.far' ?_ ?_ _) | (with_reducible refine Below.far' ?_ ?_ _) | (with_reducible refine Blk.after ?_ b1) | (with_reducible refine RowIn.belowS ?_ b1) | (with_reducible refine Below.after ?_ b1 ?_) | (exact (Eq.refl _ : (_ : List Value) = _)) | omega | go_size)
    clear b1
    have ks_1 := zs_1.cell; have fs_1 := zs_1.frozen; have ls_1 := zs_1.lt
    go_wp2_with fail
    refine (alive10 _ (by exact RowIn.row (lo := 0) (hi := w.heap.size) (by repeat' (first | (with_reducible assumption) | (with_reducible exact Below.refl _ _) | (with_reducible refine Blk.drewN ?_ _) | (with_reducible refine RowIn.drewN ?_ _) | (with_reducible refine below_drewN ?_ _) | (with_reducible refine Blk.drew ?_) | (with_reducible refine RowIn.drew ?_) | (with_reducible refine Below.drew ?_) | (with_reducible refine Blk.new' ?_ ?_ <;> first | (with_reducible rfl) | (simp; done)) | (with_reducible refine Blk.alloc ?_ _) | (with_reducible refine RowIn.alloc ?_ _) | (with_reducible refine Below.alloc ?_ ?_ _) | (with_reducible apply Blk.set') | (with_reducible apply Blk.far') | (with_reducible refine RowIn.far' ?_ ?_ _) | (with_reducible refine Below.far' ?_ ?_ _) | (exact (Eq.refl _ : (_ : List Value) = _)) | omega | go_size)))).mono ?_
    rintro e w2 ⟨rfl, b2⟩
    have s2 := b2.size
    try simp only [World.size_alloc, World.size_setCell, World.size_drew, size_drewN] at s2
    have bb_2 : Below w.heap.size w w2 := by
      repeat' (first | (with_reducible assumption) | (with_reducible exact Below.refl _ _) | (with_reducible refine Blk.drewN ?_ _) | (with_reducible refine RowIn.drewN ?_ _) | (with_reducible refine below_drewN ?_ _) | (with_reducible refine Blk.drew ?_) | (with_reducible refine RowIn.drew ?_) | (with_reducible refine Below.drew ?_) | (with_reducible refine Blk.new' ?_ ?_ <;> first | (with_reducible rfl) | (simp; done)) | (with_reducible refine Blk.alloc ?_ _) | (with_reducible refine RowIn.alloc ?_ _) | (with_reducible refine Below.alloc ?_ ?_ _) | (with_reducible apply Blk.set') | (with_reducible apply Blk.far') | (with_reducible refine RowIn.far' ?_ ?_ _) | (with_reducible refine Below.far' ?_ ?_ _) | (with_reducible refine Blk.after ?_ b2) | (with_reducible refine RowIn.belowS ?_ b2) | (with_reducible refine Below.after ?_ b2 ?_) | (exact (Eq.refl _ : (_ : List Value) = _)) | omega | go_size)
    clear zs_1 rs_1 rt_1 rb_1 rz_1 bb_1 ks_1 fs_1 ls_1 b2
    go_wp2
    go_ret
    refine ⟨rfl, ?_⟩
    repeat' (first | (with_reducible assumption) | (with_reducible exact Below.refl _ _) | (with_reducible refine Blk.drewN ?_ _) | (with_reducible refine RowIn.drewN ?_ _) | (with_reducible refine below_drewN ?_ _) | (with_reducible refine Blk.drew ?_) | (with_reducible refine RowIn.drew ?_) | (with_reducible refine Below.drew ?_) | (with_reducible refine Blk.new' ?_ ?_ <;> first | (with_reducible rfl) | (simp; done)) | (with_reducible refine Blk.alloc ?_ _) | (with_reducible refine RowIn.alloc ?_ _) | (with_reducible refine Below.alloc ?_ ?_ _) | (with_reducible apply Blk.set') | (with_reducible apply Blk.far') | (with_reducible refine RowIn.far' ?_ ?_ _) | (with_reducible refine Below.far' ?_ ?_ _) | (exact (Eq.refl _ : (_ : List Value) = _)) | omega | go_size)
  by_cases hRS : ¬ RS L p0 p1 q0 q1 xss Ns
  · go_enter Tryd.func7, Tryd.ntmps7
    go_wp2_with fail
    refine (rgreat_no As ns cs _ _ hg).mono ?_
    rintro e w1 ⟨rfl, b1⟩
    have s1 := b1.size
    try simp only [World.size_alloc, World.size_setCell, World.size_drew, size_drewN] at s1
    obtain ⟨zs_1, rs_1, rt_1, rb_1, rz_1, bb_1⟩ : Blk w1 (w.heap.size) 40 [.int .i64 (L : Int), .int .i64 (p0 : Int), .int .i64 (p1 : Int), .int .u64 (q0 : Int), .int .u64 (q1 : Int), .slice As ns cs, .int .i64 Ns] ∧ RowIn .u8 w1 (0) (w.heap.size) As ns xss ∧ RowIn .u8 w1 (0) (w.heap.size) (some ⟨0, 0, none⟩) 64 dbTab ∧ RowIn .u8 w1 (0) (w.heap.size) Ab nb xsb ∧ RowIn .i64 w1 (0) (w.heap.size) Az nz xsz ∧ Below w.heap.size w w1 := by
      refine ⟨?_, ?_, ?_, ?_, ?_, ?_⟩
      all_goals repeat' (first | (with_reducible assumption) | (with_reducible exact Below.refl _ _) | (with_reducible refine Blk.drewN ?_ _) | (with_reducible refine RowIn.drewN ?_ _) | (with_reducible refine below_drewN ?_ _) | (with_reducible refine Blk.drew ?_) | (with_reducible refine RowIn.drew ?_) | (with_reducible refine Below.drew ?_) | (with_reducible refine Blk.new' ?_ ?_ <;> first | (with_reducible rfl) | (simp; done)) | (with_reducible refine Blk.alloc ?_ _) | (with_reducible refine RowIn.alloc ?_ _) | (with_reducible refine Below.alloc ?_ ?_ _) | (with_reducible apply Blk.set') | (with_reducible apply Blk.far') | (with_reducible refine RowIn.far' ?_ ?_ _) | (with_reducible refine Below.far' ?_ ?_ _) | (with_reducible refine Blk.after ?_ b1) | (with_reducible refine RowIn.belowS ?_ b1) | (with_reducible refine Below.after ?_ b1 ?_) | (exact (Eq.refl _ : (_ : List Value) = _)) | omega | go_size)
    clear b1
    have ks_1 := zs_1.cell; have fs_1 := zs_1.frozen; have ls_1 := zs_1.lt
    go_wp2_with fail
    refine (rrc_any L p0 p1 q0 q1 Ns ns cs As xss _ hL hq0.1 hq1.1 (by exact RowIn.row (lo := 0) (hi := w.heap.size) (by repeat' (first | (with_reducible assumption) | (with_reducible exact Below.refl _ _) | (with_reducible refine Blk.drewN ?_ _) | (with_reducible refine RowIn.drewN ?_ _) | (with_reducible refine below_drewN ?_ _) | (with_reducible refine Blk.drew ?_) | (with_reducible refine RowIn.drew ?_) | (with_reducible refine Below.drew ?_) | (with_reducible refine Blk.new' ?_ ?_ <;> first | (with_reducible rfl) | (simp; done)) | (with_reducible refine Blk.alloc ?_ _) | (with_reducible refine RowIn.alloc ?_ _) | (with_reducible refine Below.alloc ?_ ?_ _) | (with_reducible apply Blk.set') | (with_reducible apply Blk.far') | (with_reducible refine RowIn.far' ?_ ?_ _) | (with_reducible refine Below.far' ?_ ?_ _) | (exact (Eq.refl _ : (_ : List Value) = _)) | omega | go_size))) hxs hcs hRS).mono ?_
    rintro e w2 ⟨rfl, b2⟩
    have s2 := b2.size
    try simp only [World.size_alloc, World.size_setCell, World.size_drew, size_drewN] at s2
    obtain ⟨zs_2, rs_2, rt_2, rb_2, rz_2, bb_2⟩ : Blk w2 (w.heap.size) 40 [.int .i64 (L : Int), .int .i64 (p0 : Int), .int .i64 (p1 : Int), .int .u64 (q0 : Int), .int .u64 (q1 : Int), .slice As ns cs, .int .i64 Ns] ∧ RowIn .u8 w2 (0) (w.heap.size) As ns xss ∧ RowIn .u8 w2 (0) (w.heap.size) (some ⟨0, 0, none⟩) 64 dbTab ∧ RowIn .u8 w2 (0) (w.heap.size) Ab nb xsb ∧ RowIn .i64 w2 (0) (w.heap.size) Az nz xsz ∧ Below w.heap.size w w2 := by
      refine ⟨?_, ?_, ?_, ?_, ?_, ?_⟩
      all_goals repeat' (first | (with_reducible assumption) | (with_reducible exact Below.refl _ _) | (with_reducible refine Blk.drewN ?_ _) | (with_reducible refine RowIn.drewN ?_ _) | (with_reducible refine below_drewN ?_ _) | (with_reducible refine Blk.drew ?_) | (with_reducible refine RowIn.drew ?_) | (with_reducible refine Below.drew ?_) | (with_reducible refine Blk.new' ?_ ?_ <;> first | (with_reducible rfl) | (simp; done)) | (with_reducible refine Blk.alloc ?_ _) | (with_reducible refine RowIn.alloc ?_ _) | (with_reducible refine Below.alloc ?_ ?_ _) | (with_reducible apply Blk.set') | (with_reducible apply Blk.far') | (with_reducible refine RowIn.far' ?_ ?_ _) | (with_reducible refine Below.far' ?_ ?_ _) | (with_reducible refine Blk.after ?_ b2) | (with_reducible refine RowIn.belowS ?_ b2) | (with_reducible refine Below.after ?_ b2 ?_) | (exact (Eq.refl _ : (_ : List Value) = _)) | omega | go_size)
    clear zs_1 rs_1 rt_1 rb_1 rz_1 bb_1 ks_1 fs_1 ls_1 b2
    have ks_2 := zs_2.cell; have fs_2 := zs_2.frozen; have ls_2 := zs_2.lt
    go_wp2_with fail
    refine (alive10 _ (by exact RowIn.row (lo := 0) (hi := w.heap.size) (by repeat' (first | (with_reducible assumption) | (with_reducible exact Below.refl _ _) | (with_reducible refine Blk.drewN ?_ _) | (with_reducible refine RowIn.drewN ?_ _) | (with_reducible refine below_drewN ?_ _) | (with_reducible refine Blk.drew ?_) | (with_reducible refine RowIn.drew ?_) | (with_reducible refine Below.drew ?_) | (with_reducible refine Blk.new' ?_ ?_ <;> first | (with_reducible rfl) | (simp; done)) | (with_reducible refine Blk.alloc ?_ _) | (with_reducible refine RowIn.alloc ?_ _) | (with_reducible refine Below.alloc ?_ ?_ _) | (with_reducible apply Blk.set') | (with_reducible apply Blk.far') | (with_reducible refine RowIn.far' ?_ ?_ _) | (with_reducible refine Below.far' ?_ ?_ _) | (exact (Eq.refl _ : (_ : List Value) = _)) | omega | go_size)))).mono ?_
    rintro e w3 ⟨rfl, b3⟩
    have s3 := b3.size
    try simp only [World.size_alloc, World.size_setCell, World.size_drew, size_drewN] at s3
    have bb_3 : Below w.heap.size w w3 := by
      repeat' (first | (with_reducible assumption) | (with_reducible exact Below.refl _ _) | (with_reducible refine Blk.drewN ?_ _) | (with_reducible refine RowIn.drewN ?_ _) | (with_reducible refine below_drewN ?_ _) | (with_reducible refine Blk.drew ?_) | (with_reducible refine RowIn.drew ?_) | (with_reducible refine Below.drew ?_) | (with_reducible refine Blk.new' ?_ ?_ <;> first | (with_reducible rfl) | (simp; done)) | (with_reducible refine Blk.alloc ?_ _) | (with_reducible refine RowIn.alloc ?_ _) | (with_reducible refine Below.alloc ?_ ?_ _) | (with_reducible apply Blk.set') | (with_reducible apply Blk.far') | (with_reducible refine RowIn.far' ?_ ?_ _) | (with_reducible refine Below.far' ?_ ?_ _) | (with_reducible refine Blk.after ?_ b3) | (with_reducible refine RowIn.belowS ?_ b3) | (with_reducible refine Below.after ?_ b3 ?_) | (exact (Eq.refl _ : (_ : List Value) = _)) | omega | go_size)
    clear zs_2 rs_2 rt_2 rb_2 rz_2 bb_2 ks_2 fs_2 ls_2 b3
    go_wp2
    go_ret
    refine ⟨rfl, ?_⟩
    repeat' (first | (with_reducible assumption) | (with_reducible exact Below.refl _ _) | (with_reducible refine Blk.drewN ?_ _) | (with_reducible refine RowIn.drewN ?_ _) | (with_reducible refine below_drewN ?_ _) | (with_reducible refine Blk.drew ?_) | (with_reducible refine RowIn.drew ?_) | (with_reducible refine Below.drew ?_) | (with_reducible refine Blk.new' ?_ ?_ <;> first | (with_reducible rfl) | (simp; done)) | (with_reducible refine Blk.alloc ?_ _) | (with_reducible refine RowIn.alloc ?_ _) | (with_reducible refine Below.alloc ?_ ?_ _) | (with_reducible apply Blk.set') | (with_reducible apply Blk.far') | (with_reducible refine RowIn.far' ?_ ?_ _) | (with_reducible refine Below.far' ?_ ?_ _) | (exact (Eq.refl _ : (_ : List Value) = _)) | omega | go_size)
  obtain ⟨Ln, p0, p1, q0, q1, xs, rfl, rfl, rfl, rfl, rfl, rfl, rfl, hxl, hLn, hfok⟩ := rs_nat (Classical.not_not.1 hRS)
  have HFO := Lib.hid hfok
  have hsh := hfok.short
  clear hfok hRS
  by_cases h3 : 190 < nb
  · have t_h3 : decide ((190 : Int) < (nb : Int)) = true := decide_eq_true (by omega)
    go_enter Tryd.func7, Tryd.ntmps7
    go_wp2_with fail
    refine (rgreat_no As ns cs _ _ hg).mono ?_
    rintro e w1 ⟨rfl, b1⟩
    have s1 := b1.size
    try simp only [World.size_alloc, World.size_setCell, World.size_drew, size_drewN] at s1
    obtain ⟨zs_1, rs_1, rt_1, rb_1, rz_1, bb_1⟩ : Blk w1 (w.heap.size) 40 [.int .i64 (Ln : Int), .int .i64 (p0 : Int), .int .i64 (p1 : Int), .int .u64 (q0 : Int), .int .u64 (q1 : Int), .slice As ns cs, .int .i64 (((xs.length : Nat)) : Int)] ∧ RowIn .u8 w1 (0) (w.heap.size) As ns (pack xs) ∧ RowIn .u8 w1 (0) (w.heap.size) (some ⟨0, 0, none⟩) 64 dbTab ∧ RowIn .u8 w1 (0) (w.heap.size) Ab nb xsb ∧ RowIn .i64 w1 (0) (w.heap.size) Az nz xsz ∧ Below w.heap.size w w1 := by
      refine ⟨?_, ?_, ?_, ?_, ?_, ?_⟩
      all_goals repeat' (first | (with_reducible assumption) | (with_reducible exact Below.refl _ _) | (with_reducible refine Blk.drewN ?_ _) | (with_reducible refine RowIn.drewN ?_ _) | (with_reducible refine below_drewN ?_ _) | (with_reducible refine Blk.drew ?_) | (with_reducible refine RowIn.drew ?_) | (with_reducible refine Below.drew ?_) | (with_reducible refine Blk.new' ?_ ?_ <;> first | (with_reducible rfl) | (simp; done)) | (with_reducible refine Blk.alloc ?_ _) | (with_reducible refine RowIn.alloc ?_ _) | (with_reducible refine Below.alloc ?_ ?_ _) | (with_reducible apply Blk.set') | (with_reducible apply Blk.far') | (with_reducible refine RowIn.far' ?_ ?_ _) | (with_reducible refine Below.far' ?_ ?_ _) | (with_reducible refine Blk.after ?_ b1) | (with_reducible refine RowIn.belowS ?_ b1) | (with_reducible refine Below.after ?_ b1 ?_) | (exact (Eq.refl _ : (_ : List Value) = _)) | omega | go_size)
    clear b1
    have ks_1 := zs_1.cell; have fs_1 := zs_1.frozen; have ls_1 := zs_1.lt
    go_wp2_with fail
    refine (rrc_val Ln p0 p1 q0 q1 ns cs As xs 0 _ hLn HFO.out.1 (by exact RowIn.row (lo := 0) (hi := w.heap.size) (by repeat' (first | (with_reducible assumption) | (with_reducible exact Below.refl _ _) | (with_reducible refine Blk.drewN ?_ _) | (with_reducible refine RowIn.drewN ?_ _) | (with_reducible refine below_drewN ?_ _) | (with_reducible refine Blk.drew ?_) | (with_reducible refine RowIn.drew ?_) | (with_reducible refine Below.drew ?_) | (with_reducible refine Blk.new' ?_ ?_ <;> first | (with_reducible rfl) | (simp; done)) | (with_reducible refine Blk.alloc ?_ _) | (with_reducible refine RowIn.alloc ?_ _) | (with_reducible refine Below.alloc ?_ ?_ _) | (with_reducible apply Blk.set') | (with_reducible apply Blk.far') | (with_reducible refine RowIn.far' ?_ ?_ _) | (with_reducible refine Below.far' ?_ ?_ _) | (exact (Eq.refl _ : (_ : List Value) = _)) | omega | go_size))) hcs hxl (Or.inl ⟨rfl, HFO.out⟩)).mono ?_
    rintro e w2 ⟨rfl, b2⟩
    have s2 := b2.size
    try simp only [World.size_alloc, World.size_setCell, World.size_drew, size_drewN] at s2
    obtain ⟨zs_2, rs_2, rt_2, rb_2, rz_2, bb_2⟩ : Blk w2 (w.heap.size) 40 [.int .i64 (Ln : Int), .int .i64 (p0 : Int), .int .i64 (p1 : Int), .int .u64 (q0 : Int), .int .u64 (q1 : Int), .slice As ns cs, .int .i64 (((xs.length : Nat)) : Int)] ∧ RowIn .u8 w2 (0) (w.heap.size) As ns (pack xs) ∧ RowIn .u8 w2 (0) (w.heap.size) (some ⟨0, 0, none⟩) 64 dbTab ∧ RowIn .u8 w2 (0) (w.heap.size) Ab nb xsb ∧ RowIn .i64 w2 (0) (w.heap.size) Az nz xsz ∧ Below w.heap.size w w2 := by
      refine ⟨?_, ?_, ?_, ?_, ?_, ?_⟩
      all_goals repeat' (first | (with_reducible assumption) | (with_reducible exact Below.refl _ _) | (with_reducible refine Blk.drewN ?_ _) | (with_reducible refine RowIn.drewN ?_ _) | (with_reducible refine below_drewN ?_ _) | (with_reducible refine Blk.drew ?_) | (with_reducible refine RowIn.drew ?_) | (with_reducible refine Below.drew ?_) | (with_reducible refine Blk.new' ?_ ?_ <;> first | (with_reducible rfl) | (simp; done)) | (with_reducible refine Blk.alloc ?_ _) | (with_reducible refine RowIn.alloc ?_ _) | (with_reducible refine Below.alloc ?_ ?_ _) | (with_reducible apply Blk.set') | (with_reducible apply Blk.far') | (with_reducible refine RowIn.far' ?_ ?_ _) | (with_reducible refine Below.far' ?_ ?_ _) | (with_reducible refine Blk.after ?_ b2) | (with_reducible refine RowIn.belowS ?_ b2) | (with_reducible refine Below.after ?_ b2 ?_) | (exact (Eq.refl _ : (_ : List Value) = _)) | omega | go_size)
    clear zs_1 rs_1 rt_1 rb_1 rz_1 bb_1 ks_1 fs_1 ls_1 b2
    have ks_2 := zs_2.cell; have fs_2 := zs_2.frozen; have ls_2 := zs_2.lt
    go_wp2_with fail
    refine (alive10 _ (by exact RowIn.row (lo := 0) (hi := w.heap.size) (by repeat' (first | (with_reducible assumption) | (with_reducible exact Below.refl _ _) | (with_reducible refine Blk.drewN ?_ _) | (with_reducible refine RowIn.drewN ?_ _) | (with_reducible refine below_drewN ?_ _) | (with_reducible refine Blk.drew ?_) | (with_reducible refine RowIn.drew ?_) | (with_reducible refine Below.drew ?_) | (with_reducible refine Blk.new' ?_ ?_ <;> first | (with_reducible rfl) | (simp; done)) | (with_reducible refine Blk.alloc ?_ _) | (with_reducible refine RowIn.alloc ?_ _) | (with_reducible refine Below.alloc ?_ ?_ _) | (with_reducible apply Blk.set') | (with_reducible apply Blk.far') | (with_reducible refine RowIn.far' ?_ ?_ _) | (with_reducible refine Below.far' ?_ ?_ _) | (exact (Eq.refl _ : (_ : List Value) = _)) | omega | go_size)))).mono ?_
    rintro e w3 ⟨rfl, b3⟩
    have s3 := b3.size
    try simp only [World.size_alloc, World.size_setCell, World.size_drew, size_drewN] at s3
    have bb_3 : Below w.heap.size w w3 := by
      repeat' (first | (with_reducible assumption) | (with_reducible exact Below.refl _ _) | (with_reducible refine Blk.drewN ?_ _) | (with_reducible refine RowIn.drewN ?_ _) | (with_reducible refine below_drewN ?_ _) | (with_reducible refine Blk.drew ?_) | (with_reducible refine RowIn.drew ?_) | (with_reducible refine Below.drew ?_) | (with_reducible refine Blk.new' ?_ ?_ <;> first | (with_reducible rfl) | (simp; done)) | (with_reducible refine Blk.alloc ?_ _) | (with_reducible refine RowIn.alloc ?_ _) | (with_reducible refine Below.alloc ?_ ?_ _) | (with_reducible apply Blk.set') | (with_reducible apply Blk.far') | (with_reducible refine RowIn.far' ?_ ?_ _) | (with_reducible refine Below.far' ?_ ?_ _) | (with_reducible refine Blk.after ?_ b3) | (with_reducible refine RowIn.belowS ?_ b3) | (with_reducible refine Below.after ?_ b3 ?_) | (exact (Eq.refl _ : (_ : List Value) = _)) | omega | go_size)
    clear zs_2 rs_2 rt_2 rb_2 rz_2 bb_2 ks_2 fs_2 ls_2 b3
    go_wp2
    go_ret
    refine ⟨rfl, ?_⟩
    repeat' (first | (with_reducible assumption) | (with_reducible exact Below.refl _ _) | (with_reducible refine Blk.drewN ?_ _) | (with_reducible refine RowIn.drewN ?_ _) | (with_reducible refine below_drewN ?_ _) | (with_reducible refine Blk.drew ?_) | (with_reducible refine RowIn.drew ?_) | (with_reducible refine Below.drew ?_) | (with_reducible refine Blk.new' ?_ ?_ <;> first | (with_reducible rfl) | (simp; done)) | (with_reducible refine Blk.alloc ?_ _) | (with_reducible refine RowIn.alloc ?_ _) | (with_reducible refine Below.alloc ?_ ?_ _) | (with_reducible apply Blk.set') | (with_reducible apply Blk.far') | (with_reducible refine RowIn.far' ?_ ?_ _) | (with_reducible refine Below.far' ?_ ?_ _) | (exact (Eq.refl _ : (_ : List Value) = _)) | omega | go_size)
  have t_h3 : decide ((190 : Int) < (nb : Int)) = false := decide_eq_false (by omega)
  by_cases h4 : 20 < nz
  · have t_h4 : decide ((20 : Int) < (nz : Int)) = true := decide_eq_true (by omega)
    go_enter Tryd.func7, Tryd.ntmps7
    go_wp2_with fail
    refine (rgreat_no As ns cs _ _ hg).mono ?_
    rintro e w1 ⟨rfl, b1⟩
    have s1 := b1.size
    try simp only [World.size_alloc, World.size_setCell, World.size_drew, size_drewN] at s1
    obtain ⟨zs_1, rs_1, rt_1, rb_1, rz_1, bb_1⟩ : Blk w1 (w.heap.size) 40 [.int .i64 (Ln : Int), .int .i64 (p0 : Int), .int .i64 (p1 : Int), .int .u64 (q0 : Int), .int .u64 (q1 : Int), .slice As ns cs, .int .i64 (((xs.length : Nat)) : Int)] ∧ RowIn .u8 w1 (0) (w.heap.size) As ns (pack xs) ∧ RowIn .u8 w1 (0) (w.heap.size) (some ⟨0, 0, none⟩) 64 dbTab ∧ RowIn .u8 w1 (0) (w.heap.size) Ab nb xsb ∧ RowIn .i64 w1 (0) (w.heap.size) Az nz xsz ∧ Below w.heap.size w w1 := by
      refine ⟨?_, ?_, ?_, ?_, ?_, ?_⟩
      all_goals repeat' (first | (with_reducible assumption) | (with_reducible exact Below.refl _ _) | (with_reducible refine Blk.drewN ?_ _) | (with_reducible refine RowIn.drewN ?_ _) | (with_reducible refine below_drewN ?_ _) | (with_reducible refine Blk.drew ?_) | (with_reducible refine RowIn.drew ?_) | (with_reducible refine Below.drew ?_) | (with_reducible refine Blk.new' ?_ ?_ <;> first | (with_reducible rfl) | (simp; done)) | (with_reducible refine Blk.alloc ?_ _) | (with_reducible refine RowIn.alloc ?_ _) | (with_reducible refine Below.alloc ?_ ?_ _) | (with_reducible apply Blk.set') | (with_reducible apply Blk.far') | (with_reducible refine RowIn.far' ?_ ?_ _) | (with_reducible refine Below.far' ?_ ?_ _) | (with_reducible refine Blk.after ?_ b1) | (with_reducible refine RowIn.belowS ?_ b1) | (with_reducible refine Below.after ?_ b1 ?_) | (exact (Eq.refl _ : (_ : List Value) = _)) | omega | go_size)
    clear b1
    have ks_1 := zs_1.cell; have fs_1 := zs_1.frozen; have ls_1 := zs_1.lt
    go_wp2_with fail
    refine (rrc_val Ln p0 p1 q0 q1 ns cs As xs 0 _ hLn HFO.out.1 (by exact RowIn.row (lo := 0) (hi := w.heap.size) (by repeat' (first | (with_reducible assumption) | (with_reducible exact Below.refl _ _) | (with_reducible refine Blk.drewN ?_ _) | (with_reducible refine RowIn.drewN ?_ _) | (with_reducible refine below_drewN ?_ _) | (with_reducible refine Blk.drew ?_) | (with_reducible refine RowIn.drew ?_) | (with_reducible refine Below.drew ?_) | (with_reducible refine Blk.new' ?_ ?_ <;> first | (with_reducible rfl) | (simp; done)) | (with_reducible refine Blk.alloc ?_ _) | (with_reducible refine RowIn.alloc ?_ _) | (with_reducible refine Below.alloc ?_ ?_ _) | (with_reducible apply Blk.set') | (with_reducible apply Blk.far') | (with_reducible refine RowIn.far' ?_ ?_ _) | (with_reducible refine Below.far' ?_ ?_ _) | (exact (Eq.refl _ : (_ : List Value) = _)) | omega | go_size))) hcs hxl (Or.inl ⟨rfl, HFO.out⟩)).mono ?_
    rintro e w2 ⟨rfl, b2⟩
    have s2 := b2.size
    try simp only [World.size_alloc, World.size_setCell, World.size_drew, size_drewN] at s2
    obtain ⟨zs_2, rs_2, rt_2, rb_2, rz_2, bb_2⟩ : Blk w2 (w.heap.size) 40 [.int .i64 (Ln : Int), .int .i64 (p0 : Int), .int .i64 (p1 : Int), .int .u64 (q0 : Int), .int .u64 (q1 : Int), .slice As ns cs, .int .i64 (((xs.length : Nat)) : Int)] ∧ RowIn .u8 w2 (0) (w.heap.size) As ns (pack xs) ∧ RowIn .u8 w2 (0) (w.heap.size) (some ⟨0, 0, none⟩) 64 dbTab ∧ RowIn .u8 w2 (0) (w.heap.size) Ab nb xsb ∧ RowIn .i64 w2 (0) (w.heap.size) Az nz xsz ∧ Below w.heap.size w w2 := by
      refine ⟨?_, ?_, ?_, ?_, ?_, ?_⟩
      all_goals repeat' (first | (with_reducible assumption) | (with_reducible exact Below.refl _ _) | (with_reducible refine Blk.drewN ?_ _) | (with_reducible refine RowIn.drewN ?_ _) | (with_reducible refine below_drewN ?_ _) | (with_reducible refine Blk.drew ?_) | (with_reducible refine RowIn.drew ?_) | (with_reducible refine Below.drew ?_) | (with_reducible refine Blk.new' ?_ ?_ <;> first | (with_reducible rfl) | (simp; done)) | (with_reducible refine Blk.alloc ?_ _) | (with_reducible refine RowIn.alloc ?_ _) | (with_reducible refine Below.alloc ?_ ?_ _) | (with_reducible apply Blk.set') | (with_reducible apply Blk.far') | (with_reducible refine RowIn.far' ?_ ?_ _) | (with_reducible refine Below.far' ?_ ?_ _) | (with_reducible refine Blk.after ?_ b2) | (with_reducible refine RowIn.belowS ?_ b2) | (with_reducible refine Below.after ?_ b2 ?_) | (exact (Eq.refl _ : (_ : List Value) = _)) | omega | go_size)
    clear zs_1 rs_1 rt_1 rb_1 rz_1 bb_1 ks_1 fs_1 ls_1 b2
    have ks_2 := zs_2.cell; have fs_2 := zs_2.frozen; have ls_2 := zs_2.lt
    go_wp2_with fail
    refine (alive10 _ (by exact RowIn.row (lo := 0) (hi := w.heap.size) (by repeat' (first | (with_reducible assumption) | (with_reducible exact Below.refl _ _) | (with_reducible refine Blk.drewN ?_ _) | (with_reducible refine RowIn.drewN ?_ _) | (with_reducible refine below_drewN ?_ _) | (with_reducible refine Blk.drew ?_) | (with_reducible refine RowIn.drew ?_) | (with_reducible refine Below.drew ?_) | (with_reducible refine Blk.new' ?_ ?_ <;> first | (with_reducible rfl) | (simp; done)) | (with_reducible refine Blk.alloc ?_ _) | (with_reducible refine RowIn.alloc ?_ _) | (with_reducible refine Below.alloc ?_ ?_ _) | (with_reducible apply Blk.set') | (with_reducible apply Blk.far') | (with_reducible refine RowIn.far' ?_ ?_ _) | (with_reducible refine Below.far' ?_ ?_ _) | (exact (Eq.refl _ : (_ : List Value) = _)) | omega | go_size)))).mono ?_
    rintro e w3 ⟨rfl, b3⟩
    have s3 := b3.size
    try simp only [World.size_alloc, World.size_setCell, World.size_drew, size_drewN] at s3
    have bb_3 : Below w.heap.size w w3 := by
      repeat' (first | (with_reducible assumption) | (with_reducible exact Below.refl _ _) | (with_reducible refine Blk.drewN ?_ _) | (with_reducible refine RowIn.drewN ?_ _) | (with_reducible refine below_drewN ?_ _) | (with_reducible refine Blk.drew ?_) | (with_reducible refine RowIn.drew ?_) | (with_reducible refine Below.drew ?_) | (with_reducible refine Blk.new' ?_ ?_ <;> first | (with_reducible rfl) | (simp; done)) | (with_reducible refine Blk.alloc ?_ _) | (with_reducible refine RowIn.alloc ?_ _) | (with_reducible refine Below.alloc ?_ ?_ _) | (with_reducible apply Blk.set') | (with_reducible apply Blk.far') | (with_reducible refine RowIn.far' ?_ ?_ _) | (with_reducible refine Below.far' ?_ ?_ _) | (with_reducible refine Blk.after ?_ b3) | (with_reducible refine RowIn.belowS ?_ b3) | (with_reducible refine Below.after ?_ b3 ?_) | (exact (Eq.refl _ : (_ : List Value) = _)) | omega | go_size)
    clear zs_2 rs_2 rt_2 rb_2 rz_2 bb_2 ks_2 fs_2 ls_2 b3
    go_wp2
    go_ret
    refine ⟨rfl, ?_⟩
    repeat' (first | (with_reducible assumption) | (with_reducible exact Below.refl _ _) | (with_reducible refine Blk.drewN ?_ _) | (with_reducible refine RowIn.drewN ?_ _) | (with_reducible refine below_drewN ?_ _) | (with_reducible refine Blk.drew ?_) | (with_reducible refine RowIn.drew ?_) | (with_reducible refine Below.drew ?_) | (with_reducible refine Blk.new' ?_ ?_ <;> first | (with_reducible rfl) | (simp; done)) | (with_reducible refine Blk.alloc ?_ _) | (with_reducible refine RowIn.alloc ?_ _) | (with_reducible refine Below.alloc ?_ ?_ _) | (with_reducible apply Blk.set') | (with_reducible apply Blk.far') | (with_reducible refine RowIn.far' ?_ ?_ _) | (with_reducible refine Below.far' ?_ ?_ _) | (exact (Eq.refl _ : (_ : List Value) = _)) | omega | go_size)
  have t_h4 : decide ((20 : Int) < (nz : Int)) = false := decide_eq_false (by omega)
  go_enter Tryd.func7, Tryd.ntmps7
  go_wp2_with fail
  refine (rgreat_no As ns cs _ _ hg).mono ?_
  rintro e w1 ⟨rfl, b1⟩
  have s1 := b1.size
  try simp only [World.size_alloc, World.size_setCell, World.size_drew, size_drewN] at s1
  obtain ⟨zs_1, rs_1, rt_1, rb_1, rz_1, bb_1⟩ : Blk w1 (w.heap.size) 40 [.int .i64 (Ln : Int), .int .i64 (p0 : Int), .int .i64 (p1 : Int), .int .u64 (q0 : Int), .int .u64 (q1 : Int), .slice As ns cs, .int .i64 (((xs.length : Nat)) : Int)] ∧ RowIn .u8 w1 (0) (w.heap.size) As ns (pack xs) ∧ RowIn .u8 w1 (0) (w.heap.size) (some ⟨0, 0, none⟩) 64 dbTab ∧ RowIn .u8 w1 (0) (w.heap.size) Ab nb xsb ∧ RowIn .i64 w1 (0) (w.heap.size) Az nz xsz ∧ Below w.heap.size w w1 := by
    refine ⟨?_, ?_, ?_, ?_, ?_, ?_⟩
    all_goals repeat' (first | (with_reducible assumption) | (with_reducible exact Below.refl _ _) | (with_reducible refine Blk.drewN ?_ _) | (with_reducible refine RowIn.drewN ?_ _) | (with_reducible refine below_drewN ?_ _) | (with_reducible refine Blk.drew ?_) | (with_reducible refine RowIn.drew ?_) | (with_reducible refine Below.drew ?_) | (with_reducible refine Blk.new' ?_ ?_ <;> first | (with_reducible rfl) | (simp; done)) | (with_reducible refine Blk.alloc ?_ _) | (with_reducible refine RowIn.alloc ?_ _) | (with_reducible refine Below.alloc ?_ ?_ _) | (with_reducible apply Blk.set') | (with_reducible apply Blk.far') | (with_reducible refine RowIn.far' ?_ ?_ _) | (with_reducible refine Below.far' ?_ ?_ _) | (with_reducible refine Blk.after ?_ b1) | (with_reducible refine RowIn.belowS ?_ b1) | (with_reducible refine Below.after ?_ b1 ?_) | (exact (Eq.refl _ : (_ : List Value) = _)) | omega | go_size)
  clear b1
  have ks_1 := zs_1.cell; have fs_1 := zs_1.frozen; have ls_1 := zs_1.lt
  go_wp2_with fail
  refine (rrc_val Ln p0 p1 q0 q1 ns cs As xs 0 _ hLn HFO.out.1 (by exact RowIn.row (lo := 0) (hi := w.heap.size) (by repeat' (first | (with_reducible assumption) | (with_reducible exact Below.refl _ _) | (with_reducible refine Blk.drewN ?_ _) | (with_reducible refine RowIn.drewN ?_ _) | (with_reducible refine below_drewN ?_ _) | (with_reducible refine Blk.drew ?_) | (with_reducible refine RowIn.drew ?_) | (with_reducible refine Below.drew ?_) | (with_reducible refine Blk.new' ?_ ?_ <;> first | (with_reducible rfl) | (simp; done)) | (with_reducible refine Blk.alloc ?_ _) | (with_reducible refine RowIn.alloc ?_ _) | (with_reducible refine Below.alloc ?_ ?_ _) | (with_reducible apply Blk.set') | (with_reducible apply Blk.far') | (with_reducible refine RowIn.far' ?_ ?_ _) | (with_reducible refine Below.far' ?_ ?_ _) | (exact (Eq.refl _ : (_ : List Value) = _)) | omega | go_size))) hcs hxl (Or.inl ⟨rfl, HFO.out⟩)).mono ?_
  rintro e w2 ⟨rfl, b2⟩
  have s2 := b2.size
  try simp only [World.size_alloc, World.size_setCell, World.size_drew, size_drewN] at s2
  obtain ⟨zs_2, rs_2, rt_2, rb_2, rz_2, bb_2⟩ : Blk w2 (w.heap.size) 40 [.int .i64 (Ln : Int), .int .i64 (p0 : Int), .int .i64 (p1 : Int), .int .u64 (q0 : Int), .int .u64 (q1 : Int), .slice As ns cs, .int .i64 (((xs.length : Nat)) : Int)] ∧ RowIn .u8 w2 (0) (w.heap.size) As ns (pack xs) ∧ RowIn .u8 w2 (0) (w.heap.size) (some ⟨0, 0, none⟩) 64 dbTab ∧ RowIn .u8 w2 (0) (w.heap.size) Ab nb xsb ∧ RowIn .i64 w2 (0) (w.heap.size) Az nz xsz ∧ Below w.heap.size w w2 := by
    refine ⟨?_, ?_, ?_, ?_, ?_, ?_⟩
    all_goals repeat' (first | (with_reducible assumption) | (with_reducible exact Below.refl _ _) | (with_reducible refine Blk.drewN ?_ _) | (with_reducible refine RowIn.drewN ?_ _) | (with_reducible refine below_drewN ?_ _) | (with_reducible refine Blk.drew ?_) | (with_reducible refine RowIn.drew ?_) | (with_reducible refine Below.drew ?_) | (with_reducible refine Blk.new' ?_ ?_ <;> first | (with_reducible rfl) | (simp; done)) | (with_reducible refine Blk.alloc ?_ _) | (with_reducible refine RowIn.alloc ?_ _) | (with_reducible refine Below.alloc ?_ ?_ _) | (with_reducible apply Blk.set') | (with_reducible apply Blk.far') | (with_reducible refine RowIn.far' ?_ ?_ _) | (with_reducible refine Below.far' ?_ ?_ _) | (with_reducible refine Blk.after ?_ b2) | (with_reducible refine RowIn.belowS ?_ b2) | (with_reducible refine Below.after ?_ b2 ?_) | (exact (Eq.refl _ : (_ : List Value) = _)) | omega | go_size)
  clear zs_1 rs_1 rt_1 rb_1 rz_1 bb_1 ks_1 fs_1 ls_1 b2
  have ks_2 := zs_2.cell; have fs_2 := zs_2.frozen; have ls_2 := zs_2.lt
  cases hfd : feed Ln ⟨p0, p1, q0, q1⟩ (xs ++ unpack xsb) with
  | err er =>
    have HFD := Lib.hid hfd
    clear hfd
    have ter : ((er : Int) == (er : Int)) = true := by simp
    have hee := feed_err HFO.out.1 HFD.out
    have ten : ((er : Int) != 0) = true := by rcases hee with rfl | rfl <;> rfl
    clear hee
    go_wp2_with fail
    refine (rfeed_e Ln p0 p1 q0 q1 ns cs As xs Ab nb cb xsb _ hLn HFO.out (by exact RowIn.row (lo := 0) (hi := w.heap.size) (by repeat' (first | (with_reducible assumption) | (with_reducible exact Below.refl _ _) | (with_reducible refine Blk.drewN ?_ _) | (with_reducible refine RowIn.drewN ?_ _) | (with_reducible refine below_drewN ?_ _) | (with_reducible refine Blk.drew ?_) | (with_reducible refine RowIn.drew ?_) | (with_reducible refine Below.drew ?_) | (with_reducible refine Blk.new' ?_ ?_ <;> first | (with_reducible rfl) | (simp; done)) | (with_reducible refine Blk.alloc ?_ _) | (with_reducible refine RowIn.alloc ?_ _) | (with_reducible refine Below.alloc ?_ ?_ _) | (with_reducible apply Blk.set') | (with_reducible apply Blk.far') | (with_reducible refine RowIn.far' ?_ ?_ _) | (with_reducible refine Below.far' ?_ ?_ _) | (exact (Eq.refl _ : (_ : List Value) = _)) | omega | go_size))) hcs (by exact RowIn.row (lo := 0) (hi := w.heap.size) (by repeat' (first | (with_reducible assumption) | (with_reducible exact Below.refl _ _) | (with_reducible refine Blk.drewN ?_ _) | (with_reducible refine RowIn.drewN ?_ _) | (with_reducible refine below_drewN ?_ _) | (with_reducible refine Blk.drew ?_) | (with_reducible refine RowIn.drew ?_) | (with_reducible refine Below.drew ?_) | (with_reducible refine Blk.new' ?_ ?_ <;> first | (with_reducible rfl) | (simp; done)) | (with_reducible refine Blk.alloc ?_ _) | (with_reducible refine RowIn.alloc ?_ _) | (with_reducible refine Below.alloc ?_ ?_ _) | (with_reducible apply Blk.set') | (with_reducible apply Blk.far') | (with_reducible refine RowIn.far' ?_ ?_ _) | (with_reducible refine Below.far' ?_ ?_ _) | (exact (Eq.refl _ : (_ : List Value) = _)) | omega | go_size))) hcb hxb (by exact RowIn.row (lo := 0) (hi := w.heap.size) (by repeat' (first | (with_reducible assumption) | (with_reducible exact Below.refl _ _) | (with_reducible refine Blk.drewN ?_ _) | (with_reducible refine RowIn.drewN ?_ _) | (with_reducible refine below_drewN ?_ _) | (with_reducible refine Blk.drew ?_) | (with_reducible refine RowIn.drew ?_) | (with_reducible refine Below.drew ?_) | (with_reducible refine Blk.new' ?_ ?_ <;> first | (with_reducible rfl) | (simp; done)) | (with_reducible refine Blk.alloc ?_ _) | (with_reducible refine RowIn.alloc ?_ _) | (with_reducible refine Below.alloc ?_ ?_ _) | (with_reducible apply Blk.set') | (with_reducible apply Blk.far') | (with_reducible refine RowIn.far' ?_ ?_ _) | (with_reducible refine Below.far' ?_ ?_ _) | (exact (Eq.refl _ : (_ : List Value) = _)) | omega | go_size))) (by omega) HFD.out).mono ?_
    rintro e w3 ⟨b3, rfl⟩
    have s3 := b3.size
    try simp only [World.size_alloc, World.size_setCell, World.size_drew, size_drewN] at s3
    obtain ⟨zs_3, rs_3, rt_3, rb_3, rz_3, bb_3⟩ : Blk w3 (w.heap.size) 40 [.int .i64 (Ln : Int), .int .i64 (p0 : Int), .int .i64 (p1 : Int), .int .u64 (q0 : Int), .int .u64 (q1 : Int), .slice As ns cs, .int .i64 (((xs.length : Nat)) : Int)] ∧ RowIn .u8 w3 (0) (w.heap.size) As ns (pack xs) ∧ RowIn .u8 w3 (0) (w.heap.size) (some ⟨0, 0, none⟩) 64 dbTab ∧ RowIn .u8 w3 (0) (w.heap.size) Ab nb xsb ∧ RowIn .i64 w3 (0) (w.heap.size) Az nz xsz ∧ Below w.heap.size w w3 := by
      refine ⟨?_, ?_, ?_, ?_, ?_, ?_⟩
      all_goals repeat' (first | (with_reducible assumption) | (with_reducible exact Below.refl _ _) | (with_reducible refine Blk.drewN ?_ _) | (with_reducible refine RowIn.drewN ?_ _) | (with_reducible refine below_drewN ?_ _) | (with_reducible refine Blk.drew ?_) | (with_reducible refine RowIn.drew ?_) | (with_reducible refine Below.drew ?_) | (with_reducible refine Blk.new' ?_ ?_ <;> first | (with_reducible rfl) | (simp; done)) | (with_reducible refine Blk.alloc ?_ _) | (with_reducible refine RowIn.alloc ?_ _) | (with_reducible refine Below.alloc ?_ ?_ _) | (with_reducible apply Blk.set') | (with_reducible apply Blk.far') | (with_reducible refine RowIn.far' ?_ ?_ _) | (with_reducible refine Below.far' ?_ ?_ _) | (with_reducible refine Blk.after ?_ b3) | (with_reducible refine RowIn.belowS ?_ b3) | (with_reducible refine Below.after ?_ b3 ?_) | (exact (Eq.refl _ : (_ : List Value) = _)) | omega | go_size)
    clear zs_2 rs_2 rt_2 rb_2 rz_2 bb_2 ks_2 fs_2 ls_2 b3
    have ks_3 := zs_3.cell; have fs_3 := zs_3.frozen; have ls_3 := zs_3.lt
    go_wp2_with fail
    obtain ⟨w4, hw4⟩ : ∃ w4, w4 = w3.alloc (.cells #[.int .i64 0, .int .i64 0, .int .i64 0, .int .u64 0, .int .u64 0, .slice none 0 0, .int .i64 0] 40) := ⟨_, rfl⟩
    obtain ⟨zs_4, zx_4, rs_4, rt_4, rb_4, rz_4, bb_4, s4⟩ : Blk w4 (w.heap.size) 40 [.int .i64 (Ln : Int), .int .i64 (p0 : Int), .int .i64 (p1 : Int), .int .u64 (q0 : Int), .int .u64 (q1 : Int), .slice As ns cs, .int .i64 (((xs.length : Nat)) : Int)] ∧ Blk w4 (w3.heap.size) 40 [.int .i64 0, .int .i64 0, .int .i64 0, .int .u64 0, .int .u64 0, .slice none 0 0, .int .i64 0] ∧ RowIn .u8 w4 (0) (w.heap.size) As ns (pack xs) ∧ RowIn .u8 w4 (0) (w.heap.size) (some ⟨0, 0, none⟩) 64 dbTab ∧ RowIn .u8 w4 (0) (w.heap.size) Ab nb xsb ∧ RowIn .i64 w4 (0) (w.heap.size) Az nz xsz ∧ Below w.heap.size w w4 ∧ w3.heap.size ≤ w4.heap.size := by
      rw [hw4]
      refine ⟨?_, ?_, ?_, ?_, ?_, ?_, ?_, by go_size⟩
      all_goals repeat' (first | (with_reducible assumption) | (with_reducible exact Below.refl _ _) | (with_reducible refine Blk.drewN ?_ _) | (with_reducible refine RowIn.drewN ?_ _) | (with_reducible refine below_drewN ?_ _) | (with_reducible refine Blk.drew ?_) | (with_reducible refine RowIn.drew ?_) | (with_reducible refine Below.drew ?_) | (with_reducible refine Blk.new' ?_ ?_ <;> first | (with_reducible rfl) | (simp; done)) | (with_reducible refine Blk.alloc ?_ _) | (with_reducible refine RowIn.alloc ?_ _) | (with_reducible refine Below.alloc ?_ ?_ _) | (with_reducible apply Blk.set') | (with_reducible apply Blk.far') | (with_reducible refine RowIn.far' ?_ ?_ _) | (with_reducible refine Below.far' ?_ ?_ _) | (exact (Eq.refl _ : (_ : List Value) = _)) | omega | go_size)
    rw [← hw4]
    clear hw4
    clear zs_3 rs_3 rt_3 rb_3 rz_3 bb_3 ks_3 fs_3 ls_3
    have ks_4 := zs_4.cell; have fs_4 := zs_4.frozen; have ls_4 := zs_4.lt
    have kx_4 := zx_4.cell; have fx_4 := zx_4.frozen; have lx_4 := zx_4.lt
    apply merge4 (fun (Dp : Option Addr) (cp : Nat) (gy : Nat) (wz : World) => Blk wz gy 40 [.int .i64 0, .int .i64 0, .int .i64 0, .int .u64 0, .int .u64 0, .slice none 0 0, .int .i64 0] ∧ Blk wz (w.heap.size) 40 [.int .i64 (Ln : Int), .int .i64 (p0 : Int), .int .i64 (p1 : Int), .int .u64 (q0 : Int), .int .u64 (q1 : Int), .slice As ns cs, .int .i64 (((xs.length : Nat)) : Int)] ∧ Blk wz (w3.heap.size) 40 [.int .i64 0, .int .i64 0, .int .i64 0, .int .u64 0, .int .u64 0, .slice none 0 0, .int .i64 0] ∧ RowIn .u8 wz (0) (w.heap.size) As ns (pack xs) ∧ RowIn .u8 wz (0) (w.heap.size) (some ⟨0, 0, none⟩) 64 dbTab ∧ RowIn .u8 wz (0) (w.heap.size) Ab nb xsb ∧ RowIn .i64 wz (0) (w.heap.size) Az nz xsz ∧ Below w.heap.size w wz ∧ w4.heap.size ≤ wz.heap.size)
    case main =>
      intro key
      have na_0 : w.heap.size ≤ w4.heap.size := by omega
      have nas_0 : w.heap.size ≠ w4.heap.size := by omega
      have nax_0 : w3.heap.size ≠ w4.heap.size := by omega
      have nrs_0 : w4.heap.size < 0 ∨ w.heap.size ≤ w4.heap.size := by omega
      have nrt_0 : w4.heap.size < 0 ∨ w.heap.size ≤ w4.heap.size := by omega
      have nrb_0 : w4.heap.size < 0 ∨ w.heap.size ≤ w4.heap.size := by omega
      have nrz_0 : w4.heap.size < 0 ∨ w.heap.size ≤ w4.heap.size := by omega
      go_region_held3 (fun w' => (∀ a, w'.cell? ⟨w.heap.size, a, none⟩ = [.int .i64 (Ln : Int), .int .i64 (p0 : Int), .int .i64 (p1 : Int), .int .u64 (q0 : Int), .int .u64 (q1 : Int), .slice As ns cs, .int .i64 (((xs.length : Nat)) : Int)][a]?)) (first | with_reducible exact ks_4 | (refine Blk.cell (t := 40) ?_; repeat' (first | (with_reducible assumption) | (with_reducible exact Below.refl _ _) | (with_reducible refine Blk.drewN ?_ _) | (with_reducible refine RowIn.drewN ?_ _) | (with_reducible refine below_drewN ?_ _) | (with_reducible refine Blk.drew ?_) | (with_reducible refine RowIn.drew ?_) | (with_reducible refine Below.drew ?_) | (with_reducible refine Blk.new' ?_ ?_ <;> first | (with_reducible rfl) | (simp; done)) | (with_reducible refine Blk.alloc ?_ _) | (with_reducible refine RowIn.alloc ?_ _) | (with_reducible refine Below.alloc ?_ ?_ _) | (with_reducible apply Blk.set') | (with_reducible apply Blk.far') | (with_reducible refine RowIn.far' ?_ ?_ _) | (with_reducible refine Below.far' ?_ ?_ _) | (with_reducible refine Blk.after ?_ bq) | (with_reducible refine RowIn.belowS ?_ bq) | (with_reducible refine Below.after ?_ bq ?_) | (with_reducible refine Blk.after ?_ bp) | (with_reducible refine RowIn.belowS ?_ bp) | (with_reducible refine Below.after ?_ bp ?_) | (exact (Eq.refl _ : (_ : List Value) = _)) | omega | go_size))) (first
        | (go_simp; go_at_call 40; refine (cut_ok Ab nb cb xsb Az nz cz xsz _ ⟨(by exact RowIn.row (lo := 0) (hi := w.heap.size) (by repeat' (first | (with_reducible assumption) | (with_reducible exact Below.refl _ _) | (with_reducible refine Blk.drewN ?_ _) | (with_reducible refine RowIn.drewN ?_ _) | (with_reducible refine below_drewN ?_ _) | (with_reducible refine Blk.drew ?_) | (with_reducible refine RowIn.drew ?_) | (with_reducible refine Below.drew ?_) | (with_reducible refine Blk.new' ?_ ?_ <;> first | (with_reducible rfl) | (simp; done)) | (with_reducible refine Blk.alloc ?_ _) | (with_reducible refine RowIn.alloc ?_ _) | (with_reducible refine Below.alloc ?_ ?_ _) | (with_reducible apply Blk.set') | (with_reducible apply Blk.far') | (with_reducible refine RowIn.far' ?_ ?_ _) | (with_reducible refine Below.far' ?_ ?_ _) | (exact (Eq.refl _ : (_ : List Value) = _)) | omega | go_size))), hcb⟩ (by exact RowIn.row (lo := 0) (hi := w.heap.size) (by repeat' (first | (with_reducible assumption) | (with_reducible exact Below.refl _ _) | (with_reducible refine Blk.drewN ?_ _) | (with_reducible refine RowIn.drewN ?_ _) | (with_reducible refine below_drewN ?_ _) | (with_reducible refine Blk.drew ?_) | (with_reducible refine RowIn.drew ?_) | (with_reducible refine Below.drew ?_) | (with_reducible refine Blk.new' ?_ ?_ <;> first | (with_reducible rfl) | (simp; done)) | (with_reducible refine Blk.alloc ?_ _) | (with_reducible refine RowIn.alloc ?_ _) | (with_reducible refine Below.alloc ?_ ?_ _) | (with_reducible apply Blk.set') | (with_reducible apply Blk.far') | (with_reducible refine RowIn.far' ?_ ?_ _) | (with_reducible refine Below.far' ?_ ?_ _) | (exact (Eq.refl _ : (_ : List Value) = _)) | omega | go_size))) hxz hcz (by omega)).mono ?_; rintro e wp ⟨Dp, cp, vsp, psp, rfl, hcp, rp, HPD, HPF, bp⟩
           have sp := bp.size
           try simp only [World.size_alloc, World.size_setCell, World.size_drew, size_drewN] at sp
           have HPD2 := HPD.below bp
           replace rp := rp.mono (lo' := 0) (Nat.zero_le _) (Nat.le_refl _)
           obtain ⟨zs_p, zx_p, rs_p, rt_p, rb_p, rz_p, bb_p⟩ : Blk wp (w.heap.size) 40 [.int .i64 (Ln : Int), .int .i64 (p0 : Int), .int .i64 (p1 : Int), .int .u64 (q0 : Int), .int .u64 (q1 : Int), .slice As ns cs, .int .i64 (((xs.length : Nat)) : Int)] ∧ Blk wp (w3.heap.size) 40 [.int .i64 0, .int .i64 0, .int .i64 0, .int .u64 0, .int .u64 0, .slice none 0 0, .int .i64 0] ∧ RowIn .u8 wp (0) (w.heap.size) As ns (pack xs) ∧ RowIn .u8 wp (0) (w.heap.size) (some ⟨0, 0, none⟩) 64 dbTab ∧ RowIn .u8 wp (0) (w.heap.size) Ab nb xsb ∧ RowIn .i64 wp (0) (w.heap.size) Az nz xsz ∧ Below w.heap.size w wp := (by
             refine ⟨?_, ?_, ?_, ?_, ?_, ?_, ?_⟩
             all_goals repeat' (first | (with_reducible assumption) | (with_reducible exact Below.refl _ _) | (with_reducible refine Blk.drewN ?_ _) | (with_reducible refine RowIn.drewN ?_ _) | (with_reducible refine below_drewN ?_ _) | (with_reducible refine Blk.drew ?_) | (with_reducible refine RowIn.drew ?_) | (with_reducible refine Below.drew ?_) | (with_reducible refine Blk.new' ?_ ?_ <;> first | (with_reducible rfl) | (simp; done)) | (with_reducible refine Blk.alloc ?_ _) | (with_reducible refine RowIn.alloc ?_ _) | (with_reducible refine Below.alloc ?_ ?_ _) | (with_reducible apply Blk.set') | (with_reducible apply Blk.far') | (with_reducible refine RowIn.far' ?_ ?_ _) | (with_reducible refine Below.far' ?_ ?_ _) | (with_reducible refine Blk.after ?_ bp) | (with_reducible refine RowIn.belowS ?_ bp) | (with_reducible refine Below.after ?_ bp ?_) | (exact (Eq.refl _ : (_ : List Value) = _)) | omega | go_size))
           try (with_reducible (have zp1 := Blk.after (Blk.drew (Blk.new' (g := w4.heap.size) (t := 40) (l := [.int .i64 0, .int .i64 0, .int .i64 0, .int .u64 0, .int .u64 0, .slice none 0 0, .int .i64 0]) rfl rfl)) bp)))
        | (go_simp; go_at_call 39; refine (feeds_e Ln p0 p1 q0 q1 ns cs As xs Dp (nz + 1) cp vsp psp _ hLn HFO.out (by exact RowIn.row (lo := 0) (hi := w.heap.size) (by repeat' (first | (with_reducible assumption) | (with_reducible exact Below.refl _ _) | (with_reducible refine Blk.drewN ?_ _) | (with_reducible refine RowIn.drewN ?_ _) | (with_reducible refine below_drewN ?_ _) | (with_reducible refine Blk.drew ?_) | (with_reducible refine RowIn.drew ?_) | (with_reducible refine Below.drew ?_) | (with_reducible refine Blk.new' ?_ ?_ <;> first | (with_reducible rfl) | (simp; done)) | (with_reducible refine Blk.alloc ?_ _) | (with_reducible refine RowIn.alloc ?_ _) | (with_reducible refine Below.alloc ?_ ?_ _) | (with_reducible apply Blk.set') | (with_reducible apply Blk.far') | (with_reducible refine RowIn.far' ?_ ?_ _) | (with_reducible refine Below.far' ?_ ?_ _) | (exact (Eq.refl _ : (_ : List Value) = _)) | omega | go_size))) hcs (RowV.mono (lo := 0) (hi := wp.heap.size) (by first | exact rp | exact rp.alloc _) (Nat.le_refl _) (by go_size)) hcp (by first | exact HPD2 | exact HPD2.below ((Below.refl _ _).alloc (Nat.le_refl _) _)) (flat_within HPF.out hxb (by rw [HLb.out]; omega)) (by exact RowIn.row (lo := 0) (hi := w.heap.size) (by repeat' (first | (with_reducible assumption) | (with_reducible exact Below.refl _ _) | (with_reducible refine Blk.drewN ?_ _) | (with_reducible refine RowIn.drewN ?_ _) | (with_reducible refine below_drewN ?_ _) | (with_reducible refine Blk.drew ?_) | (with_reducible refine RowIn.drew ?_) | (with_reducible refine Below.drew ?_) | (with_reducible refine Blk.new' ?_ ?_ <;> first | (with_reducible rfl) | (simp; done)) | (with_reducible refine Blk.alloc ?_ _) | (with_reducible refine RowIn.alloc ?_ _) | (with_reducible refine Below.alloc ?_ ?_ _) | (with_reducible apply Blk.set') | (with_reducible apply Blk.far') | (with_reducible refine RowIn.far' ?_ ?_ _) | (with_reducible refine Below.far' ?_ ?_ _) | (exact (Eq.refl _ : (_ : List Value) = _)) | omega | go_size))) (by omega) (by rw [HPF.out]; exact HFD.out)).mono ?_; rintro e wq ⟨bq, rfl⟩
           have sq := bq.size
           try simp only [World.size_alloc, World.size_setCell, World.size_drew, size_drewN] at sq
           obtain ⟨zs_q, zx_q, rs_q, rt_q, rb_q, rz_q, bb_q⟩ : Blk wq (w.heap.size) 40 [.int .i64 (Ln : Int), .int .i64 (p0 : Int), .int .i64 (p1 : Int), .int .u64 (q0 : Int), .int .u64 (q1 : Int), .slice As ns cs, .int .i64 (((xs.length : Nat)) : Int)] ∧ Blk wq (w3.heap.size) 40 [.int .i64 0, .int .i64 0, .int .i64 0, .int .u64 0, .int .u64 0, .slice none 0 0, .int .i64 0] ∧ RowIn .u8 wq (0) (w.heap.size) As ns (pack xs) ∧ RowIn .u8 wq (0) (w.heap.size) (some ⟨0, 0, none⟩) 64 dbTab ∧ RowIn .u8 wq (0) (w.heap.size) Ab nb xsb ∧ RowIn .i64 wq (0) (w.heap.size) Az nz xsz ∧ Below w.heap.size w wq := (by
             refine ⟨?_, ?_, ?_, ?_, ?_, ?_, ?_⟩
             all_goals repeat' (first | (with_reducible assumption) | (with_reducible exact Below.refl _ _) | (with_reducible refine Blk.drewN ?_ _) | (with_reducible refine RowIn.drewN ?_ _) | (with_reducible refine below_drewN ?_ _) | (with_reducible refine Blk.drew ?_) | (with_reducible refine RowIn.drew ?_) | (with_reducible refine Below.drew ?_) | (with_reducible refine Blk.new' ?_ ?_ <;> first | (with_reducible rfl) | (simp; done)) | (with_reducible refine Blk.alloc ?_ _) | (with_reducible refine RowIn.alloc ?_ _) | (with_reducible refine Below.alloc ?_ ?_ _) | (with_reducible apply Blk.set') | (with_reducible apply Blk.far4) | (with_reducible apply RowIn.far4) | (with_reducible apply Below.far4) | (with_reducible apply Blk.far2) | (with_reducible apply RowIn.far2) | (with_reducible apply Below.far2) | (with_reducible apply Blk.far') | (with_reducible refine RowIn.far' ?_ ?_ _) | (with_reducible refine Below.far' ?_ ?_ _) | (with_reducible refine Blk.after ?_ bq) | (with_reducible refine RowIn.belowS ?_ bq) | (with_reducible refine Below.after ?_ bq ?_) | (exact (Eq.refl _ : (_ : List Value) = _)) | omega | go_size))
           try (have zq1 := Blk.after zp1 bq; have kq1 := zq1.cell; have fq1 := zq1.frozen; have lq1 := zq1.lt)
           try (with_reducible (have zq2 := Blk.after (Blk.new' (g := wp.heap.size) (t := 40) (l := [.int .i64 0, .int .i64 0, .int .i64 0, .int .u64 0, .int .u64 0, .slice none 0 0, .int .i64 0]) rfl rfl) bq; have kq2 := zq2.cell; have fq2 := zq2.frozen; have lq2 := zq2.lt))))
      all_goals
        refine gen_world (fun wz hwz => ?_)
        first
        | (generalize hg0 : wq.heap.size = gy; refine key Dp cp gy wz ?_; subst hg0; subst hwz; refine ⟨?_, ?_, ?_, ?_, ?_, ?_, ?_, ?_, ?_⟩ <;> ((repeat' (first | (with_reducible assumption) | (with_reducible exact Below.refl _ _) | (with_reducible refine Blk.new' ?_ ?_ <;> first | (with_reducible rfl) | (simp; done)) | (with_reducible refine Blk.alloc ?_ _) | (with_reducible refine RowIn.alloc ?_ _) | (with_reducible refine Below.alloc ?_ ?_ _) | (with_reducible refine Own.alloc ?_ _) | (with_reducible apply Blk.set7) | (with_reducible refine Blk.far7 ?_ ?_) | (with_reducible refine RowIn.far7 ?_ ?_) | (with_reducible refine Below.far7 ?_ ?_) | (with_reducible refine Own.far7 ?_ ?_) | (exact (Eq.refl _ : (_ : List Value) = _)) | omega | go_size)); done))
        | (generalize hg0 : wp.heap.size = gy; refine key Dp cp gy wz ?_; subst hg0; subst hwz; refine ⟨?_, ?_, ?_, ?_, ?_, ?_, ?_, ?_, ?_⟩ <;> ((repeat' (first | (with_reducible assumption) | (with_reducible exact Below.refl _ _) | (with_reducible refine Blk.new' ?_ ?_ <;> first | (with_reducible rfl) | (simp; done)) | (with_reducible refine Blk.alloc ?_ _) | (with_reducible refine RowIn.alloc ?_ _) | (with_reducible refine Below.alloc ?_ ?_ _) | (with_reducible refine Own.alloc ?_ _) | (with_reducible apply Blk.set7) | (with_reducible refine Blk.far7 ?_ ?_) | (with_reducible refine RowIn.far7 ?_ ?_) | (with_reducible refine Below.far7 ?_ ?_) | (with_reducible refine Own.far7 ?_ ?_) | (exact (Eq.refl _ : (_ : List Value) = _)) | omega | go_size)); done))
        | (generalize hg0 : w4.heap.size = gy; refine key Dp cp gy wz ?_; subst hg0; subst hwz; refine ⟨?_, ?_, ?_, ?_, ?_, ?_, ?_, ?_, ?_⟩ <;> ((repeat' (first | (with_reducible assumption) | (with_reducible exact Below.refl _ _) | (with_reducible refine Blk.new' ?_ ?_ <;> first | (with_reducible rfl) | (simp; done)) | (with_reducible refine Blk.alloc ?_ _) | (with_reducible refine RowIn.alloc ?_ _) | (with_reducible refine Below.alloc ?_ ?_ _) | (with_reducible refine Own.alloc ?_ _) | (with_reducible apply Blk.set7) | (with_reducible refine Blk.far7 ?_ ?_) | (with_reducible refine RowIn.far7 ?_ ?_) | (with_reducible refine Below.far7 ?_ ?_) | (with_reducible refine Own.far7 ?_ ?_) | (exact (Eq.refl _ : (_ : List Value) = _)) | omega | go_size)); done))
    case k =>
      intro Dp cp gy w5 hF
      obtain ⟨zy0, zs_5, zx_5, rs_5, rt_5, rb_5, rz_5, bb_5, s5⟩ := hF
      clear zs_4 zx_4 rs_4 rt_4 rb_4 rz_4 bb_4 ks_4 fs_4 ls_4 kx_4 fx_4 lx_4
      have ks_5 := zs_5.cell; have fs_5 := zs_5.frozen; have ls_5 := zs_5.lt
      have kx_5 := zx_5.cell; have fx_5 := zx_5.frozen; have lx_5 := zx_5.lt
      have zy_5 := zy0; have ky_5 := zy_5.cell; have fy_5 := zy_5.frozen; have ly_5 := zy_5.lt
      go_wp2_with fail
      refine (rrsame_eq 0 0 0 0 0 0 0 0 0 0 0 none none [] [] _ Row.nil Row.nil (fun x hx => by simp at hx) rfl rfl).mono ?_
      rintro e w6 ⟨rfl, b6⟩
      have s6 := b6.size
      try simp only [World.size_alloc, World.size_setCell, World.size_drew, size_drewN] at s6
      obtain ⟨zs_6, zx_6, rs_6, rt_6, rb_6, rz_6, bb_6⟩ : Blk w6 (w.heap.size) 40 [.int .i64 (Ln : Int), .int .i64 (p0 : Int), .int .i64 (p1 : Int), .int .u64 (q0 : Int), .int .u64 (q1 : Int), .slice As ns cs, .int .i64 (((xs.length : Nat)) : Int)] ∧ Blk w6 (w3.heap.size) 40 [.int .i64 0, .int .i64 0, .int .i64 0, .int .u64 0, .int .u64 0, .slice none 0 0, .int .i64 0] ∧ RowIn .u8 w6 (0) (w.heap.size) As ns (pack xs) ∧ RowIn .u8 w6 (0) (w.heap.size) (some ⟨0, 0, none⟩) 64 dbTab ∧ RowIn .u8 w6 (0) (w.heap.size) Ab nb xsb ∧ RowIn .i64 w6 (0) (w.heap.size) Az nz xsz ∧ Below w.heap.size w w6 := by
        refine ⟨?_, ?_, ?_, ?_, ?_, ?_, ?_⟩
        all_goals repeat' (first | (with_reducible assumption) | (with_reducible exact Below.refl _ _) | (with_reducible refine Blk.drewN ?_ _) | (with_reducible refine RowIn.drewN ?_ _) | (with_reducible refine below_drewN ?_ _) | (with_reducible refine Blk.drew ?_) | (with_reducible refine RowIn.drew ?_) | (with_reducible refine Below.drew ?_) | (with_reducible refine Blk.new' ?_ ?_ <;> first | (with_reducible rfl) | (simp; done)) | (with_reducible refine Blk.alloc ?_ _) | (with_reducible refine RowIn.alloc ?_ _) | (with_reducible refine Below.alloc ?_ ?_ _) | (with_reducible apply Blk.set') | (with_reducible apply Blk.far') | (with_reducible refine RowIn.far' ?_ ?_ _) | (with_reducible refine Below.far' ?_ ?_ _) | (with_reducible refine Blk.after ?_ b6) | (with_reducible refine RowIn.belowS ?_ b6) | (with_reducible refine Below.after ?_ b6 ?_) | (exact (Eq.refl _ : (_ : List Value) = _)) | omega | go_size)
      clear zs_5 zx_5 rs_5 rt_5 rb_5 rz_5 bb_5 s5 ks_5 fs_5 ls_5 kx_5 fx_5 lx_5 b6
      have ks_6 := zs_6.cell; have fs_6 := zs_6.frozen; have ls_6 := zs_6.lt
      have kx_6 := zx_6.cell; have fx_6 := zx_6.frozen; have lx_6 := zx_6.lt
      go_wp2_with fail
      refine (r9same_eq none none 0 0 0 0 [] [] _ Row.nil Row.nil (by omega) rfl).mono ?_
      rintro e w7 ⟨rfl, b7⟩
      have s7 := b7.size
      try simp only [World.size_alloc, World.size_setCell, World.size_drew, size_drewN] at s7
      obtain ⟨zs_7, zx_7, rs_7, rt_7, rb_7, rz_7, bb_7⟩ : Blk w7 (w.heap.size) 40 [.int .i64 (Ln : Int), .int .i64 (p0 : Int), .int .i64 (p1 : Int), .int .u64 (q0 : Int), .int .u64 (q1 : Int), .slice As ns cs, .int .i64 (((xs.length : Nat)) : Int)] ∧ Blk w7 (w3.heap.size) 40 [.int .i64 0, .int .i64 0, .int .i64 0, .int .u64 0, .int .u64 0, .slice none 0 0, .int .i64 0] ∧ RowIn .u8 w7 (0) (w.heap.size) As ns (pack xs) ∧ RowIn .u8 w7 (0) (w.heap.size) (some ⟨0, 0, none⟩) 64 dbTab ∧ RowIn .u8 w7 (0) (w.heap.size) Ab nb xsb ∧ RowIn .i64 w7 (0) (w.heap.size) Az nz xsz ∧ Below w.heap.size w w7 := by
        refine ⟨?_, ?_, ?_, ?_, ?_, ?_, ?_⟩
        all_goals repeat' (first | (with_reducible assumption) | (with_reducible exact Below.refl _ _) | (with_reducible refine Blk.drewN ?_ _) | (with_reducible refine RowIn.drewN ?_ _) | (with_reducible refine below_drewN ?_ _) | (with_reducible refine Blk.drew ?_) | (with_reducible refine RowIn.drew ?_) | (with_reducible refine Below.drew ?_) | (with_reducible refine Blk.new' ?_ ?_ <;> first | (with_reducible rfl) | (simp; done)) | (with_reducible refine Blk.alloc ?_ _) | (with_reducible refine RowIn.alloc ?_ _) | (with_reducible refine Below.alloc ?_ ?_ _) | (with_reducible apply Blk.set') | (with_reducible apply Blk.far') | (with_reducible refine RowIn.far' ?_ ?_ _) | (with_reducible refine Below.far' ?_ ?_ _) | (with_reducible refine Blk.after ?_ b7) | (with_reducible refine RowIn.belowS ?_ b7) | (with_reducible refine Below.after ?_ b7 ?_) | (exact (Eq.refl _ : (_ : List Value) = _)) | omega | go_size)
      clear zs_6 zx_6 rs_6 rt_6 rb_6 rz_6 bb_6 ks_6 fs_6 ls_6 kx_6 fx_6 lx_6 b7
      have ks_7 := zs_7.cell; have fs_7 := zs_7.frozen; have ls_7 := zs_7.lt
      have kx_7 := zx_7.cell; have fx_7 := zx_7.frozen; have lx_7 := zx_7.lt
      go_wp2_with fail
      refine (alive10 _ (by exact RowIn.row (lo := 0) (hi := w.heap.size) (by repeat' (first | (with_reducible assumption) | (with_reducible exact Below.refl _ _) | (with_reducible refine Blk.drewN ?_ _) | (with_reducible refine RowIn.drewN ?_ _) | (with_reducible refine below_drewN ?_ _) | (with_reducible refine Blk.drew ?_) | (with_reducible refine RowIn.drew ?_) | (with_reducible refine Below.drew ?_) | (with_reducible refine Blk.new' ?_ ?_ <;> first | (with_reducible rfl) | (simp; done)) | (with_reducible refine Blk.alloc ?_ _) | (with_reducible refine RowIn.alloc ?_ _) | (with_reducible refine Below.alloc ?_ ?_ _) | (with_reducible apply Blk.set') | (with_reducible apply Blk.far') | (with_reducible refine RowIn.far' ?_ ?_ _) | (with_reducible refine Below.far' ?_ ?_ _) | (exact (Eq.refl _ : (_ : List Value) = _)) | omega | go_size)))).mono ?_
      rintro e w8 ⟨rfl, b8⟩
      have s8 := b8.size
      try simp only [World.size_alloc, World.size_setCell, World.size_drew, size_drewN] at s8
      have bb_8 : Below w.heap.size w w8 := by
        repeat' (first | (with_reducible assumption) | (with_reducible exact Below.refl _ _) | (with_reducible refine Blk.drewN ?_ _) | (with_reducible refine RowIn.drewN ?_ _) | (with_reducible refine below_drewN ?_ _) | (with_reducible refine Blk.drew ?_) | (with_reducible refine RowIn.drew ?_) | (with_reducible refine Below.drew ?_) | (with_reducible refine Blk.new' ?_ ?_ <;> first | (with_reducible rfl) | (simp; done)) | (with_reducible refine Blk.alloc ?_ _) | (with_reducible refine RowIn.alloc ?_ _) | (with_reducible refine Below.alloc ?_ ?_ _) | (with_reducible apply Blk.set') | (with_reducible apply Blk.far') | (with_reducible refine RowIn.far' ?_ ?_ _) | (with_reducible refine Below.far' ?_ ?_ _) | (with_reducible refine Blk.after ?_ b8) | (with_reducible refine RowIn.belowS ?_ b8) | (with_reducible refine Below.after ?_ b8 ?_) | (exact (Eq.refl _ : (_ : List Value) = _)) | omega | go_size)
      clear zs_7 zx_7 rs_7 rt_7 rb_7 rz_7 bb_7 ks_7 fs_7 ls_7 kx_7 fx_7 lx_7 b8
      go_wp2
      go_ret
      refine ⟨rfl, ?_⟩
      repeat' (first | (with_reducible assumption) | (with_reducible exact Below.refl _ _) | (with_reducible refine Blk.drewN ?_ _) | (with_reducible refine RowIn.drewN ?_ _) | (with_reducible refine below_drewN ?_ _) | (with_reducible refine Blk.drew ?_) | (with_reducible refine RowIn.drew ?_) | (with_reducible refine Below.drew ?_) | (with_reducible refine Blk.new' ?_ ?_ <;> first | (with_reducible rfl) | (simp; done)) | (with_reducible refine Blk.alloc ?_ _) | (with_reducible refine RowIn.alloc ?_ _) | (with_reducible refine Below.alloc ?_ ?_ _) | (with_reducible apply Blk.set') | (with_reducible apply Blk.far') | (with_reducible refine RowIn.far' ?_ ?_ _) | (with_reducible refine Below.far' ?_ ?_ _) | (exact (Eq.refl _ : (_ : List Value) = _)) | omega | go_size)
  | ok us n2 d2 r2 =>
    obtain ⟨⟨u0, u1, v0, v1⟩, hd2⟩ : ∃ q, q = d2 := ⟨_, rfl⟩
    subst hd2
    obtain ⟨f1, f2, f3, f4, f5⟩ := feed_ok HFO.out.1 hfd
    have HFD := Lib.hid hfd
    have HF1 := Lib.hid f1
    have hsh2 := f1.short
    clear hfd f1 f3 f4 f5
    go_wp2_with fail
    refine (rfeed_c Ln p0 p1 q0 q1 ns cs As xs Ab nb cb xsb _ hLn HFO.out (by exact RowIn.row (lo := 0) (hi := w.heap.size) (by repeat' (first | (with_reducible assumption) | (with_reducible exact Below.refl _ _) | (with_reducible refine Blk.drewN ?_ _) | (with_reducible refine RowIn.drewN ?_ _) | (with_reducible refine below_drewN ?_ _) | (with_reducible refine Blk.drew ?_) | (with_reducible refine RowIn.drew ?_) | (with_reducible refine Below.drew ?_) | (with_reducible refine Blk.new' ?_ ?_ <;> first | (with_reducible rfl) | (simp; done)) | (with_reducible refine Blk.alloc ?_ _) | (with_reducible refine RowIn.alloc ?_ _) | (with_reducible refine Below.alloc ?_ ?_ _) | (with_reducible apply Blk.set') | (with_reducible apply Blk.far') | (with_reducible refine RowIn.far' ?_ ?_ _) | (with_reducible refine Below.far' ?_ ?_ _) | (exact (Eq.refl _ : (_ : List Value) = _)) | omega | go_size))) hcs (by exact RowIn.row (lo := 0) (hi := w.heap.size) (by repeat' (first | (with_reducible assumption) | (with_reducible exact Below.refl _ _) | (with_reducible refine Blk.drewN ?_ _) | (with_reducible refine RowIn.drewN ?_ _) | (with_reducible refine below_drewN ?_ _) | (with_reducible refine Blk.drew ?_) | (with_reducible refine RowIn.drew ?_) | (with_reducible refine Below.drew ?_) | (with_reducible refine Blk.new' ?_ ?_ <;> first | (with_reducible rfl) | (simp; done)) | (with_reducible refine Blk.alloc ?_ _) | (with_reducible refine RowIn.alloc ?_ _) | (with_reducible refine Below.alloc ?_ ?_ _) | (with_reducible apply Blk.set') | (with_reducible apply Blk.far') | (with_reducible refine RowIn.far' ?_ ?_ _) | (with_reducible refine Below.far' ?_ ?_ _) | (exact (Eq.refl _ : (_ : List Value) = _)) | omega | go_size))) hcb hxb (by exact RowIn.row (lo := 0) (hi := w.heap.size) (by repeat' (first | (with_reducible assumption) | (with_reducible exact Below.refl _ _) | (with_reducible refine Blk.drewN ?_ _) | (with_reducible refine RowIn.drewN ?_ _) | (with_reducible refine below_drewN ?_ _) | (with_reducible refine Blk.drew ?_) | (with_reducible refine RowIn.drew ?_) | (with_reducible refine Below.drew ?_) | (with_reducible refine Blk.new' ?_ ?_ <;> first | (with_reducible rfl) | (simp; done)) | (with_reducible refine Blk.alloc ?_ _) | (with_reducible refine RowIn.alloc ?_ _) | (with_reducible refine Below.alloc ?_ ?_ _) | (with_reducible apply Blk.set') | (with_reducible apply Blk.far') | (with_reducible refine RowIn.far' ?_ ?_ _) | (with_reducible refine Below.far' ?_ ?_ _) | (exact (Eq.refl _ : (_ : List Value) = _)) | omega | go_size))) (by omega) HFD.out).mono ?_
    rintro e w3 ⟨mx, cx, kx, dx, Ax, Bx, xx, zx, rfl, hcx, HXx, rx, hdx, HZx, rlx, b3⟩
    have lnx := rlx.len
    replace rx := rx.mono (lo' := w2.heap.size + 0) (by go_size) (Nat.le_refl _)
    replace rlx := rlx.mono (lo' := w2.heap.size + 0) (by go_size) (Nat.le_refl _)
    have s3 := b3.size
    try simp only [World.size_alloc, World.size_setCell, World.size_drew, size_drewN] at s3
    obtain ⟨zs_3, rs_3, rt_3, rb_3, rz_3, rx_3, rlx_3, bb_3⟩ : Blk w3 (w.heap.size) 40 [.int .i64 (Ln : Int), .int .i64 (p0 : Int), .int .i64 (p1 : Int), .int .u64 (q0 : Int), .int .u64 (q1 : Int), .slice As ns cs, .int .i64 (((xs.length : Nat)) : Int)] ∧ RowIn .u8 w3 (0) (w.heap.size) As ns (pack xs) ∧ RowIn .u8 w3 (0) (w.heap.size) (some ⟨0, 0, none⟩) 64 dbTab ∧ RowIn .u8 w3 (0) (w.heap.size) Ab nb xsb ∧ RowIn .i64 w3 (0) (w.heap.size) Az nz xsz ∧ RowIn .u8 w3 (w2.heap.size + 0) (w3.heap.size) Ax mx (pack xx) ∧ RowIn .u32 w3 (w2.heap.size + 0) (w3.heap.size) Bx kx zx ∧ Below w.heap.size w w3 := by
      refine ⟨?_, ?_, ?_, ?_, ?_, ?_, ?_, ?_⟩
      all_goals repeat' (first | (with_reducible assumption) | (with_reducible exact Below.refl _ _) | (with_reducible refine Blk.drewN ?_ _) | (with_reducible refine RowIn.drewN ?_ _) | (with_reducible refine below_drewN ?_ _) | (with_reducible refine Blk.drew ?_) | (with_reducible refine RowIn.drew ?_) | (with_reducible refine Below.drew ?_) | (with_reducible refine Blk.new' ?_ ?_ <;> first | (with_reducible rfl) | (simp; done)) | (with_reducible refine Blk.alloc ?_ _) | (with_reducible refine RowIn.alloc ?_ _) | (with_reducible refine Below.alloc ?_ ?_ _) | (with_reducible apply Blk.set') | (with_reducible apply Blk.far') | (with_reducible refine RowIn.far' ?_ ?_ _) | (with_reducible refine Below.far' ?_ ?_ _) | (with_reducible refine Blk.after ?_ b3) | (with_reducible refine RowIn.belowS ?_ b3) | (with_reducible refine Below.after ?_ b3 ?_) | (exact (Eq.refl _ : (_ : List Value) = _)) | omega | go_size)
    clear zs_2 rs_2 rt_2 rb_2 rz_2 bb_2 ks_2 fs_2 ls_2 b3
    have ks_3 := zs_3.cell; have fs_3 := zs_3.frozen; have ls_3 := zs_3.lt
    clear rx rlx
    have hkx : kx = us.length := by rw [← lnx, HZx.out, ints_len]
    have HKX := Lib.hid hkx
    have hkn : kx + n2 = Ln := by omega
    have tkn : ((n2 : Int) + (kx : Int) == (Ln : Int)) = true := beq_iff_eq.2 (by omega)
    have hkx4 : kx ≤ 4000 := by omega
    have hn24 : n2 ≤ 4000 := by omega
    have hlx : xx.length ≤ 80 := by rw [HXx.out]; exact hsh2
    clear hkx hkn f2
    go_wp2_with fail
    obtain ⟨w4, hw4⟩ : ∃ w4, w4 = w3.alloc (.cells #[.int .i64 (n2 : Int), .int .i64 (u0 : Int), .int .i64 (u1 : Int), .int .u64 (v0 : Int), .int .u64 (v1 : Int), .slice Ax mx cx, .int .i64 (((xx.length : Nat)) : Int)] 40) := ⟨_, rfl⟩
    obtain ⟨zs_4, zx_4, rs_4, rt_4, rb_4, rz_4, rx_4, rlx_4, bb_4, s4⟩ : Blk w4 (w.heap.size) 40 [.int .i64 (Ln : Int), .int .i64 (p0 : Int), .int .i64 (p1 : Int), .int .u64 (q0 : Int), .int .u64 (q1 : Int), .slice As ns cs, .int .i64 (((xs.length : Nat)) : Int)] ∧ Blk w4 (w3.heap.size) 40 [.int .i64 (n2 : Int), .int .i64 (u0 : Int), .int .i64 (u1 : Int), .int .u64 (v0 : Int), .int .u64 (v1 : Int), .slice Ax mx cx, .int .i64 (((xx.length : Nat)) : Int)] ∧ RowIn .u8 w4 (0) (w.heap.size) As ns (pack xs) ∧ RowIn .u8 w4 (0) (w.heap.size) (some ⟨0, 0, none⟩) 64 dbTab ∧ RowIn .u8 w4 (0) (w.heap.size) Ab nb xsb ∧ RowIn .i64 w4 (0) (w.heap.size) Az nz xsz ∧ RowIn .u8 w4 (w2.heap.size + 0) (w3.heap.size) Ax mx (pack xx) ∧ RowIn .u32 w4 (w2.heap.size + 0) (w3.heap.size) Bx kx zx ∧ Below w.heap.size w w4 ∧ w3.heap.size ≤ w4.heap.size := by
      rw [hw4]
      refine ⟨?_, ?_, ?_, ?_, ?_, ?_, ?_, ?_, ?_, by go_size⟩
      all_goals repeat' (first | (with_reducible assumption) | (with_reducible exact Below.refl _ _) | (with_reducible refine Blk.drewN ?_ _) | (with_reducible refine RowIn.drewN ?_ _) | (with_reducible refine below_drewN ?_ _) | (with_reducible refine Blk.drew ?_) | (with_reducible refine RowIn.drew ?_) | (with_reducible refine Below.drew ?_) | (with_reducible refine Blk.new' ?_ ?_ <;> first | (with_reducible rfl) | (simp; done)) | (with_reducible refine Blk.alloc ?_ _) | (with_reducible refine RowIn.alloc ?_ _) | (with_reducible refine Below.alloc ?_ ?_ _) | (with_reducible apply Blk.set') | (with_reducible apply Blk.far') | (with_reducible refine RowIn.far' ?_ ?_ _) | (with_reducible refine Below.far' ?_ ?_ _) | (exact (Eq.refl _ : (_ : List Value) = _)) | omega | go_size)
    rw [← hw4]
    clear hw4
    clear zs_3 rs_3 rt_3 rb_3 rz_3 rx_3 rlx_3 bb_3 ks_3 fs_3 ls_3
    have ks_4 := zs_4.cell; have fs_4 := zs_4.frozen; have ls_4 := zs_4.lt
    have kx_4 := zx_4.cell; have fx_4 := zx_4.frozen; have lx_4 := zx_4.lt
    apply merge12 (fun (Dp : Option Addr) (cp : Nat) (Ay : Option Addr) (my : Nat) (cy : Nat) (xy : List Bool) (By : Option Addr) (ky : Nat) (dy : Nat) (zy : List Int) (gy : Nat) (wz : World) => Blk wz gy 40 [.int .i64 (n2 : Int), .int .i64 (u0 : Int), .int .i64 (u1 : Int), .int .u64 (v0 : Int), .int .u64 (v1 : Int), .slice Ay my cy, .int .i64 (((xy.length : Nat)) : Int)] ∧ (my ≤ cy ∧ cy ≤ 9223372036854775807) ∧ Hid (xy = r2) ∧ (ky ≤ dy ∧ dy ≤ 9223372036854775807) ∧ Hid (zy = ints us) ∧ RowIn .u8 wz 0 wz.heap.size Ay my (pack xy) ∧ RowIn .u32 wz 0 wz.heap.size By ky zy ∧ Blk wz (w.heap.size) 40 [.int .i64 (Ln : Int), .int .i64 (p0 : Int), .int .i64 (p1 : Int), .int .u64 (q0 : Int), .int .u64 (q1 : Int), .slice As ns cs, .int .i64 (((xs.length : Nat)) : Int)] ∧ Blk wz (w3.heap.size) 40 [.int .i64 (n2 : Int), .int .i64 (u0 : Int), .int .i64 (u1 : Int), .int .u64 (v0 : Int), .int .u64 (v1 : Int), .slice Ax mx cx, .int .i64 (((xx.length : Nat)) : Int)] ∧ RowIn .u8 wz (0) (w.heap.size) As ns (pack xs) ∧ RowIn .u8 wz (0) (w.heap.size) (some ⟨0, 0, none⟩) 64 dbTab ∧ RowIn .u8 wz (0) (w.heap.size) Ab nb xsb ∧ RowIn .i64 wz (0) (w.heap.size) Az nz xsz ∧ RowIn .u8 wz (w2.heap.size + 0) (w3.heap.size) Ax mx (pack xx) ∧ RowIn .u32 wz (w2.heap.size + 0) (w3.heap.size) Bx kx zx ∧ Below w.heap.size w wz ∧ w4.heap.size ≤ wz.heap.size)
    case main =>
      intro key
      have na_0 : w.heap.size ≤ w4.heap.size := by omega
      have nas_0 : w.heap.size ≠ w4.heap.size := by omega
      have nax_0 : w3.heap.size ≠ w4.heap.size := by omega
      have nrs_0 : w4.heap.size < 0 ∨ w.heap.size ≤ w4.heap.size := by omega
      have nrt_0 : w4.heap.size < 0 ∨ w.heap.size ≤ w4.heap.size := by omega
      have nrb_0 : w4.heap.size < 0 ∨ w.heap.size ≤ w4.heap.size := by omega
      have nrz_0 : w4.heap.size < 0 ∨ w.heap.size ≤ w4.heap.size := by omega
      have nrx_0 : w4.heap.size < w2.heap.size + 0 ∨ w3.heap.size ≤ w4.heap.size := by omega
      have nrlx_0 : w4.heap.size < w2.heap.size + 0 ∨ w3.heap.size ≤ w4.heap.size := by omega
      go_region_held3 (fun w' => (∀ a, w'.cell? ⟨w.heap.size, a, none⟩ = [.int .i64 (Ln : Int), .int .i64 (p0 : Int), .int .i64 (p1 : Int), .int .u64 (q0 : Int), .int .u64 (q1 : Int), .slice As ns cs, .int .i64 (((xs.length : Nat)) : Int)][a]?)) (first | with_reducible exact ks_4 | (refine Blk.cell (t := 40) ?_; repeat' (first | (with_reducible assumption) | (with_reducible exact Below.refl _ _) | (with_reducible refine Blk.drewN ?_ _) | (with_reducible refine RowIn.drewN ?_ _) | (with_reducible refine below_drewN ?_ _) | (with_reducible refine Blk.drew ?_) | (with_reducible refine RowIn.drew ?_) | (with_reducible refine Below.drew ?_) | (with_reducible refine Blk.new' ?_ ?_ <;> first | (with_reducible rfl) | (simp; done)) | (with_reducible refine Blk.alloc ?_ _) | (with_reducible refine RowIn.alloc ?_ _) | (with_reducible refine Below.alloc ?_ ?_ _) | (with_reducible apply Blk.set') | (with_reducible apply Blk.far') | (with_reducible refine RowIn.far' ?_ ?_ _) | (with_reducible refine Below.far' ?_ ?_ _) | (with_reducible refine Blk.after ?_ bq) | (with_reducible refine RowIn.belowS ?_ bq) | (with_reducible refine Below.after ?_ bq ?_) | (with_reducible refine Blk.after ?_ bp) | (with_reducible refine RowIn.belowS ?_ bp) | (with_reducible refine Below.after ?_ bp ?_) | (exact (Eq.refl _ : (_ : List Value) = _)) | omega | go_size))) (first
        | (go_simp; go_at_call 40; refine (cut_ok Ab nb cb xsb Az nz cz xsz _ ⟨(by exact RowIn.row (lo := 0) (hi := w.heap.size) (by repeat' (first | (with_reducible assumption) | (with_reducible exact Below.refl _ _) | (with_reducible refine Blk.drewN ?_ _) | (with_reducible refine RowIn.drewN ?_ _) | (with_reducible refine below_drewN ?_ _) | (with_reducible refine Blk.drew ?_) | (with_reducible refine RowIn.drew ?_) | (with_reducible refine Below.drew ?_) | (with_reducible refine Blk.new' ?_ ?_ <;> first | (with_reducible rfl) | (simp; done)) | (with_reducible refine Blk.alloc ?_ _) | (with_reducible refine RowIn.alloc ?_ _) | (with_reducible refine Below.alloc ?_ ?_ _) | (with_reducible apply Blk.set') | (with_reducible apply Blk.far') | (with_reducible refine RowIn.far' ?_ ?_ _) | (with_reducible refine Below.far' ?_ ?_ _) | (exact (Eq.refl _ : (_ : List Value) = _)) | omega | go_size))), hcb⟩ (by exact RowIn.row (lo := 0) (hi := w.heap.size) (by repeat' (first | (with_reducible assumption) | (with_reducible exact Below.refl _ _) | (with_reducible refine Blk.drewN ?_ _) | (with_reducible refine RowIn.drewN ?_ _) | (with_reducible refine below_drewN ?_ _) | (with_reducible refine Blk.drew ?_) | (with_reducible refine RowIn.drew ?_) | (with_reducible refine Below.drew ?_) | (with_reducible refine Blk.new' ?_ ?_ <;> first | (with_reducible rfl) | (simp; done)) | (with_reducible refine Blk.alloc ?_ _) | (with_reducible refine RowIn.alloc ?_ _) | (with_reducible refine Below.alloc ?_ ?_ _) | (with_reducible apply Blk.set') | (with_reducible apply Blk.far') | (with_reducible refine RowIn.far' ?_ ?_ _) | (with_reducible refine Below.far' ?_ ?_ _) | (exact (Eq.refl _ : (_ : List Value) = _)) | omega | go_size))) hxz hcz (by omega)).mono ?_; rintro e wp ⟨Dp, cp, vsp, psp, rfl, hcp, rp, HPD, HPF, bp⟩
           have sp := bp.size
           try simp only [World.size_alloc, World.size_setCell, World.size_drew, size_drewN] at sp
           have HPD2 := HPD.below bp
           replace rp := rp.mono (lo' := 0) (Nat.zero_le _) (Nat.le_refl _)
           obtain ⟨zs_p, zx_p, rs_p, rt_p, rb_p, rz_p, rx_p, rlx_p, bb_p⟩ : Blk wp (w.heap.size) 40 [.int .i64 (Ln : Int), .int .i64 (p0 : Int), .int .i64 (p1 : Int), .int .u64 (q0 : Int), .int .u64 (q1 : Int), .slice As ns cs, .int .i64 (((xs.length : Nat)) : Int)] ∧ Blk wp (w3.heap.size) 40 [.int .i64 (n2 : Int), .int .i64 (u0 : Int), .int .i64 (u1 : Int), .int .u64 (v0 : Int), .int .u64 (v1 : Int), .slice Ax mx cx, .int .i64 (((xx.length : Nat)) : Int)] ∧ RowIn .u8 wp (0) (w.heap.size) As ns (pack xs) ∧ RowIn .u8 wp (0) (w.heap.size) (some ⟨0, 0, none⟩) 64 dbTab ∧ RowIn .u8 wp (0) (w.heap.size) Ab nb xsb ∧ RowIn .i64 wp (0) (w.heap.size) Az nz xsz ∧ RowIn .u8 wp (w2.heap.size + 0) (w3.heap.size) Ax mx (pack xx) ∧ RowIn .u32 wp (w2.heap.size + 0) (w3.heap.size) Bx kx zx ∧ Below w.heap.size w wp := (by
             refine ⟨?_, ?_, ?_, ?_, ?_, ?_, ?_, ?_, ?_⟩
             all_goals repeat' (first | (with_reducible assumption) | (with_reducible exact Below.refl _ _) | (with_reducible refine Blk.drewN ?_ _) | (with_reducible refine RowIn.drewN ?_ _) | (with_reducible refine below_drewN ?_ _) | (with_reducible refine Blk.drew ?_) | (with_reducible refine RowIn.drew ?_) | (with_reducible refine Below.drew ?_) | (with_reducible refine Blk.new' ?_ ?_ <;> first | (with_reducible rfl) | (simp; done)) | (with_reducible refine Blk.alloc ?_ _) | (with_reducible refine RowIn.alloc ?_ _) | (with_reducible refine Below.alloc ?_ ?_ _) | (with_reducible apply Blk.set') | (with_reducible apply Blk.far') | (with_reducible refine RowIn.far' ?_ ?_ _) | (with_reducible refine Below.far' ?_ ?_ _) | (with_reducible refine Blk.after ?_ bp) | (with_reducible refine RowIn.belowS ?_ bp) | (with_reducible refine Below.after ?_ bp ?_) | (exact (Eq.refl _ : (_ : List Value) = _)) | omega | go_size))
           try (with_reducible (have zp1 := Blk.after (Blk.drew (Blk.new' (g := w4.heap.size) (t := 40) (l := [.int .i64 0, .int .i64 0, .int .i64 0, .int .u64 0, .int .u64 0, .slice none 0 0, .int .i64 0]) rfl rfl)) bp)))
        | (go_simp; go_at_call 39; refine (feeds_c Ln p0 p1 q0 q1 ns cs As xs Dp (nz + 1) cp vsp psp _ hLn HFO.out (by exact RowIn.row (lo := 0) (hi := w.heap.size) (by repeat' (first | (with_reducible assumption) | (with_reducible exact Below.refl _ _) | (with_reducible refine Blk.drewN ?_ _) | (with_reducible refine RowIn.drewN ?_ _) | (with_reducible refine below_drewN ?_ _) | (with_reducible refine Blk.drew ?_) | (with_reducible refine RowIn.drew ?_) | (with_reducible refine Below.drew ?_) | (with_reducible refine Blk.new' ?_ ?_ <;> first | (with_reducible rfl) | (simp; done)) | (with_reducible refine Blk.alloc ?_ _) | (with_reducible refine RowIn.alloc ?_ _) | (with_reducible refine Below.alloc ?_ ?_ _) | (with_reducible apply Blk.set') | (with_reducible apply Blk.far') | (with_reducible refine RowIn.far' ?_ ?_ _) | (with_reducible refine Below.far' ?_ ?_ _) | (exact (Eq.refl _ : (_ : List Value) = _)) | omega | go_size))) hcs (RowV.mono (lo := 0) (hi := wp.heap.size) (by first | exact rp | exact rp.alloc _) (Nat.le_refl _) (by go_size)) hcp (by first | exact HPD2 | exact HPD2.below ((Below.refl _ _).alloc (Nat.le_refl _) _)) (flat_within HPF.out hxb (by rw [HLb.out]; omega)) (by exact RowIn.row (lo := 0) (hi := w.heap.size) (by repeat' (first | (with_reducible assumption) | (with_reducible exact Below.refl _ _) | (with_reducible refine Blk.drewN ?_ _) | (with_reducible refine RowIn.drewN ?_ _) | (with_reducible refine below_drewN ?_ _) | (with_reducible refine Blk.drew ?_) | (with_reducible refine RowIn.drew ?_) | (with_reducible refine Below.drew ?_) | (with_reducible refine Blk.new' ?_ ?_ <;> first | (with_reducible rfl) | (simp; done)) | (with_reducible refine Blk.alloc ?_ _) | (with_reducible refine RowIn.alloc ?_ _) | (with_reducible refine Below.alloc ?_ ?_ _) | (with_reducible apply Blk.set') | (with_reducible apply Blk.far') | (with_reducible refine RowIn.far' ?_ ?_ _) | (with_reducible refine Below.far' ?_ ?_ _) | (exact (Eq.refl _ : (_ : List Value) = _)) | omega | go_size))) (by omega) (by rw [HPF.out]; exact HFD.out)).mono ?_; rintro e wq ⟨my, cy, ky, dy, Ay, By, xy, zy, rfl, hcy, HXy, ry, hdy, HZy, rly, bq⟩
           have sq := bq.size
           try simp only [World.size_alloc, World.size_setCell, World.size_drew, size_drewN] at sq
           obtain ⟨zs_q, zx_q, rs_q, rt_q, rb_q, rz_q, rx_q, rlx_q, bb_q⟩ : Blk wq (w.heap.size) 40 [.int .i64 (Ln : Int), .int .i64 (p0 : Int), .int .i64 (p1 : Int), .int .u64 (q0 : Int), .int .u64 (q1 : Int), .slice As ns cs, .int .i64 (((xs.length : Nat)) : Int)] ∧ Blk wq (w3.heap.size) 40 [.int .i64 (n2 : Int), .int .i64 (u0 : Int), .int .i64 (u1 : Int), .int .u64 (v0 : Int), .int .u64 (v1 : Int), .slice Ax mx cx, .int .i64 (((xx.length : Nat)) : Int)] ∧ RowIn .u8 wq (0) (w.heap.size) As ns (pack xs) ∧ RowIn .u8 wq (0) (w.heap.size) (some ⟨0, 0, none⟩) 64 dbTab ∧ RowIn .u8 wq (0) (w.heap.size) Ab nb xsb ∧ RowIn .i64 wq (0) (w.heap.size) Az nz xsz ∧ RowIn .u8 wq (w2.heap.size + 0) (w3.heap.size) Ax mx (pack xx) ∧ RowIn .u32 wq (w2.heap.size + 0) (w3.heap.size) Bx kx zx ∧ Below w.heap.size w wq := (by
             refine ⟨?_, ?_, ?_, ?_, ?_, ?_, ?_, ?_, ?_⟩
             all_goals repeat' (first | (with_reducible assumption) | (with_reducible exact Below.refl _ _) | (with_reducible refine Blk.drewN ?_ _) | (with_reducible refine RowIn.drewN ?_ _) | (with_reducible refine below_drewN ?_ _) | (with_reducible refine Blk.drew ?_) | (with_reducible refine RowIn.drew ?_) | (with_reducible refine Below.drew ?_) | (with_reducible refine Blk.new' ?_ ?_ <;> first | (with_reducible rfl) | (simp; done)) | (with_reducible refine Blk.alloc ?_ _) | (with_reducible refine RowIn.alloc ?_ _) | (with_reducible refine Below.alloc ?_ ?_ _) | (with_reducible apply Blk.set') | (with_reducible apply Blk.far4) | (with_reducible apply RowIn.far4) | (with_reducible apply Below.far4) | (with_reducible apply Blk.far2) | (with_reducible apply RowIn.far2) | (with_reducible apply Below.far2) | (with_reducible apply Blk.far') | (with_reducible refine RowIn.far' ?_ ?_ _) | (with_reducible refine Below.far' ?_ ?_ _) | (with_reducible refine Blk.after ?_ bq) | (with_reducible refine RowIn.belowS ?_ bq) | (with_reducible refine Below.after ?_ bq ?_) | (exact (Eq.refl _ : (_ : List Value) = _)) | omega | go_size))
           try (have zq1 := Blk.after zp1 bq; have kq1 := zq1.cell; have fq1 := zq1.frozen; have lq1 := zq1.lt)
           try (with_reducible (have zq2 := Blk.after (Blk.new' (g := wp.heap.size) (t := 40) (l := [.int .i64 0, .int .i64 0, .int .i64 0, .int .u64 0, .int .u64 0, .slice none 0 0, .int .i64 0]) rfl rfl) bq; have kq2 := zq2.cell; have fq2 := zq2.frozen; have lq2 := zq2.lt))))
      all_goals
        refine gen_world (fun wz hwz => ?_)
        first
        | (generalize hg0 : wq.heap.size = gy; refine key Dp cp Ay my cy xy By ky dy zy gy wz ?_; subst hg0; subst hwz; refine ⟨?_, ?_, ?_, ?_, ?_, ?_, ?_, ?_, ?_, ?_, ?_, ?_, ?_, ?_, ?_, ?_, ?_⟩ <;> ((repeat' (first | (with_reducible refine RowIn.mono (lo := 0) (hi := wq.heap.size) ?_ (Nat.le_refl _) (show wq.heap.size ≤ _ by go_size); first | with_reducible exact RowIn.alloc ry _ | with_reducible exact far7_ne ry zq1 zv8 | with_reducible exact far7_ne ry zq2 zv8 | with_reducible exact RowIn.alloc rly _ | with_reducible exact far7_ne rly zq1 zv32 | with_reducible exact far7_ne rly zq2 zv32) | (with_reducible refine RowIn.mono (lo := 0) (hi := wq.heap.size) ?_ (Nat.le_refl _) (show wq.heap.size ≤ _ by go_size); first | with_reducible exact RowIn.alloc ry _ | with_reducible exact far7_ne ry zq1 zv8 | with_reducible exact far7_ne ry zq2 zv8 | with_reducible exact RowIn.alloc rly _ | with_reducible exact far7_ne rly zq1 zv32 | with_reducible exact far7_ne rly zq2 zv32) | (with_reducible assumption) | (with_reducible exact Below.refl _ _) | (with_reducible refine Blk.new' ?_ ?_ <;> first | (with_reducible rfl) | (simp; done)) | (with_reducible refine Blk.alloc ?_ _) | (with_reducible refine RowIn.alloc ?_ _) | (with_reducible refine Below.alloc ?_ ?_ _) | (with_reducible refine Own.alloc ?_ _) | (with_reducible apply Blk.set7) | (with_reducible refine Blk.far7 ?_ ?_) | (with_reducible refine RowIn.far7 ?_ ?_) | (with_reducible refine Below.far7 ?_ ?_) | (with_reducible refine Own.far7 ?_ ?_) | (exact (Eq.refl _ : (_ : List Value) = _)) | omega | go_size)); done))
        | (generalize hg0 : wp.heap.size = gy; refine key Dp cp Ay my cy xy By ky dy zy gy wz ?_; subst hg0; subst hwz; refine ⟨?_, ?_, ?_, ?_, ?_, ?_, ?_, ?_, ?_, ?_, ?_, ?_, ?_, ?_, ?_, ?_, ?_⟩ <;> ((repeat' (first | (with_reducible refine RowIn.mono (lo := 0) (hi := wq.heap.size) ?_ (Nat.le_refl _) (show wq.heap.size ≤ _ by go_size); first | with_reducible exact RowIn.alloc ry _ | with_reducible exact far7_ne ry zq1 zv8 | with_reducible exact far7_ne ry zq2 zv8 | with_reducible exact RowIn.alloc rly _ | with_reducible exact far7_ne rly zq1 zv32 | with_reducible exact far7_ne rly zq2 zv32) | (with_reducible refine RowIn.mono (lo := 0) (hi := wq.heap.size) ?_ (Nat.le_refl _) (show wq.heap.size ≤ _ by go_size); first | with_reducible exact RowIn.alloc ry _ | with_reducible exact far7_ne ry zq1 zv8 | with_reducible exact far7_ne ry zq2 zv8 | with_reducible exact RowIn.alloc rly _ | with_reducible exact far7_ne rly zq1 zv32 | with_reducible exact far7_ne rly zq2 zv32) | (with_reducible assumption) | (with_reducible exact Below.refl _ _) | (with_reducible refine Blk.new' ?_ ?_ <;> first | (with_reducible rfl) | (simp; done)) | (with_reducible refine Blk.alloc ?_ _) | (with_reducible refine RowIn.alloc ?_ _) | (with_reducible refine Below.alloc ?_ ?_ _) | (with_reducible refine Own.alloc ?_ _) | (with_reducible apply Blk.set7) | (with_reducible refine Blk.far7 ?_ ?_) | (with_reducible refine RowIn.far7 ?_ ?_) | (with_reducible refine Below.far7 ?_ ?_) | (with_reducible refine Own.far7 ?_ ?_) | (exact (Eq.refl _ : (_ : List Value) = _)) | omega | go_size)); done))
        | (generalize hg0 : w4.heap.size = gy; refine key Dp cp Ay my cy xy By ky dy zy gy wz ?_; subst hg0; subst hwz; refine ⟨?_, ?_, ?_, ?_, ?_, ?_, ?_, ?_, ?_, ?_, ?_, ?_, ?_, ?_, ?_, ?_, ?_⟩ <;> ((repeat' (first | (with_reducible refine RowIn.mono (lo := 0) (hi := wq.heap.size) ?_ (Nat.le_refl _) (show wq.heap.size ≤ _ by go_size); first | with_reducible exact RowIn.alloc ry _ | with_reducible exact far7_ne ry zq1 zv8 | with_reducible exact far7_ne ry zq2 zv8 | with_reducible exact RowIn.alloc rly _ | with_reducible exact far7_ne rly zq1 zv32 | with_reducible exact far7_ne rly zq2 zv32) | (with_reducible refine RowIn.mono (lo := 0) (hi := wq.heap.size) ?_ (Nat.le_refl _) (show wq.heap.size ≤ _ by go_size); first | with_reducible exact RowIn.alloc ry _ | with_reducible exact far7_ne ry zq1 zv8 | with_reducible exact far7_ne ry zq2 zv8 | with_reducible exact RowIn.alloc rly _ | with_reducible exact far7_ne rly zq1 zv32 | with_reducible exact far7_ne rly zq2 zv32) | (with_reducible assumption) | (with_reducible exact Below.refl _ _) | (with_reducible refine Blk.new' ?_ ?_ <;> first | (with_reducible rfl) | (simp; done)) | (with_reducible refine Blk.alloc ?_ _) | (with_reducible refine RowIn.alloc ?_ _) | (with_reducible refine Below.alloc ?_ ?_ _) | (with_reducible refine Own.alloc ?_ _) | (with_reducible apply Blk.set7) | (with_reducible refine Blk.far7 ?_ ?_) | (with_reducible refine RowIn.far7 ?_ ?_) | (with_reducible refine Below.far7 ?_ ?_) | (with_reducible refine Own.far7 ?_ ?_) | (exact (Eq.refl _ : (_ : List Value) = _)) | omega | go_size)); done))
    case k =>
      intro Dp cp Ay my cy xy By ky dy zy gy w5 hF
      obtain ⟨zy0, hcy, HXy, hdy, HZy, ry0, rly0, zs_5, zx_5, rs_5, rt_5, rb_5, rz_5, rx_5, rlx_5, bb_5, s5⟩ := hF
      clear zs_4 zx_4 rs_4 rt_4 rb_4 rz_4 rx_4 rlx_4 bb_4 ks_4 fs_4 ls_4 kx_4 fx_4 lx_4
      have ks_5 := zs_5.cell; have fs_5 := zs_5.frozen; have ls_5 := zs_5.lt
      have kx_5 := zx_5.cell; have fx_5 := zx_5.frozen; have lx_5 := zx_5.lt
      have zy_5 := zy0; have ky_5 := zy_5.cell; have fy_5 := zy_5.frozen; have ly_5 := zy_5.lt
      have ry_5 := ry0; have rly_5 := rly0
      clear ry0 rly0
      have HE1 : Hid (pack xx = pack xy) := Lib.hid (by rw [HXx.out, HXy.out])
      have HE2 : Hid (((xx.length : Nat) : Int) = ((xy.length : Nat) : Int)) := Lib.hid (by rw [HXx.out, HXy.out])
      have HE3 : Hid (zx = zy) := Lib.hid (by rw [HZx.out, HZy.out])
      go_wp2_with fail
      refine (rrsame_eq n2 u0 u1 v0 v1 _ _ mx cx my cy Ax Ay (pack xx) (pack xy) _ (by exact RowIn.row (lo := w2.heap.size + 0) (hi := w3.heap.size) (by repeat' (first | (with_reducible assumption) | (with_reducible exact Below.refl _ _) | (with_reducible refine Blk.drewN ?_ _) | (with_reducible refine RowIn.drewN ?_ _) | (with_reducible refine below_drewN ?_ _) | (with_reducible refine Blk.drew ?_) | (with_reducible refine RowIn.drew ?_) | (with_reducible refine Below.drew ?_) | (with_reducible refine Blk.new' ?_ ?_ <;> first | (with_reducible rfl) | (simp; done)) | (with_reducible refine Blk.alloc ?_ _) | (with_reducible refine RowIn.alloc ?_ _) | (with_reducible refine Below.alloc ?_ ?_ _) | (with_reducible apply Blk.set') | (with_reducible apply Blk.far') | (with_reducible refine RowIn.far' ?_ ?_ _) | (with_reducible refine Below.far' ?_ ?_ _) | (exact (Eq.refl _ : (_ : List Value) = _)) | omega | go_size))) (by exact RowIn.row (lo := 0) (hi := w5.heap.size) (by repeat' (first | (with_reducible assumption) | (with_reducible exact Below.refl _ _) | (with_reducible refine Blk.drewN ?_ _) | (with_reducible refine RowIn.drewN ?_ _) | (with_reducible refine below_drewN ?_ _) | (with_reducible refine Blk.drew ?_) | (with_reducible refine RowIn.drew ?_) | (with_reducible refine Below.drew ?_) | (with_reducible refine Blk.new' ?_ ?_ <;> first | (with_reducible rfl) | (simp; done)) | (with_reducible refine Blk.alloc ?_ _) | (with_reducible refine RowIn.alloc ?_ _) | (with_reducible refine Below.alloc ?_ ?_ _) | (with_reducible apply Blk.set') | (with_reducible apply Blk.far') | (with_reducible refine RowIn.far' ?_ ?_ _) | (with_reducible refine Below.far' ?_ ?_ _) | (exact (Eq.refl _ : (_ : List Value) = _)) | omega | go_size))) (pack_u8 _) HE1.out HE2.out).mono ?_
      rintro e w6 ⟨rfl, b6⟩
      have s6 := b6.size
      try simp only [World.size_alloc, World.size_setCell, World.size_drew, size_drewN] at s6
      obtain ⟨zs_6, zx_6, rs_6, rt_6, rb_6, rz_6, rx_6, rlx_6, ry_6, rly_6, bb_6⟩ : Blk w6 (w.heap.size) 40 [.int .i64 (Ln : Int), .int .i64 (p0 : Int), .int .i64 (p1 : Int), .int .u64 (q0 : Int), .int .u64 (q1 : Int), .slice As ns cs, .int .i64 (((xs.length : Nat)) : Int)] ∧ Blk w6 (w3.heap.size) 40 [.int .i64 (n2 : Int), .int .i64 (u0 : Int), .int .i64 (u1 : Int), .int .u64 (v0 : Int), .int .u64 (v1 : Int), .slice Ax mx cx, .int .i64 (((xx.length : Nat)) : Int)] ∧ RowIn .u8 w6 (0) (w.heap.size) As ns (pack xs) ∧ RowIn .u8 w6 (0) (w.heap.size) (some ⟨0, 0, none⟩) 64 dbTab ∧ RowIn .u8 w6 (0) (w.heap.size) Ab nb xsb ∧ RowIn .i64 w6 (0) (w.heap.size) Az nz xsz ∧ RowIn .u8 w6 (w2.heap.size + 0) (w3.heap.size) Ax mx (pack xx) ∧ RowIn .u32 w6 (w2.heap.size + 0) (w3.heap.size) Bx kx zx ∧ RowIn .u8 w6 (0) (w5.heap.size) Ay my (pack xy) ∧ RowIn .u32 w6 (0) (w5.heap.size) By ky zy ∧ Below w.heap.size w w6 := by
        refine ⟨?_, ?_, ?_, ?_, ?_, ?_, ?_, ?_, ?_, ?_, ?_⟩
        all_goals repeat' (first | (with_reducible assumption) | (with_reducible exact Below.refl _ _) | (with_reducible refine Blk.drewN ?_ _) | (with_reducible refine RowIn.drewN ?_ _) | (with_reducible refine below_drewN ?_ _) | (with_reducible refine Blk.drew ?_) | (with_reducible refine RowIn.drew ?_) | (with_reducible refine Below.drew ?_) | (with_reducible refine Blk.new' ?_ ?_ <;> first | (with_reducible rfl) | (simp; done)) | (with_reducible refine Blk.alloc ?_ _) | (with_reducible refine RowIn.alloc ?_ _) | (with_reducible refine Below.alloc ?_ ?_ _) | (with_reducible apply Blk.set') | (with_reducible apply Blk.far') | (with_reducible refine RowIn.far' ?_ ?_ _) | (with_reducible refine Below.far' ?_ ?_ _) | (with_reducible refine Blk.after ?_ b6) | (with_reducible refine RowIn.belowS ?_ b6) | (with_reducible refine Below.after ?_ b6 ?_) | (exact (Eq.refl _ : (_ : List Value) = _)) | omega | go_size)
      clear zs_5 zx_5 rs_5 rt_5 rb_5 rz_5 rx_5 rlx_5 bb_5 s5 ks_5 fs_5 ls_5 kx_5 fx_5 lx_5 b6
      have ks_6 := zs_6.cell; have fs_6 := zs_6.frozen; have ls_6 := zs_6.lt
      have kx_6 := zx_6.cell; have fx_6 := zx_6.frozen; have lx_6 := zx_6.lt
      go_wp2_with fail
      refine (r9same_eq Bx By kx dx ky dy zx zy _ (by exact RowIn.row (lo := w2.heap.size + 0) (hi := w3.heap.size) (by repeat' (first | (with_reducible assumption) | (with_reducible exact Below.refl _ _) | (with_reducible refine Blk.drewN ?_ _) | (with_reducible refine RowIn.drewN ?_ _) | (with_reducible refine below_drewN ?_ _) | (with_reducible refine Blk.drew ?_) | (with_reducible refine RowIn.drew ?_) | (with_reducible refine Below.drew ?_) | (with_reducible refine Blk.new' ?_ ?_ <;> first | (with_reducible rfl) | (simp; done)) | (with_reducible refine Blk.alloc ?_ _) | (with_reducible refine RowIn.alloc ?_ _) | (with_reducible refine Below.alloc ?_ ?_ _) | (with_reducible apply Blk.set') | (with_reducible apply Blk.far') | (with_reducible refine RowIn.far' ?_ ?_ _) | (with_reducible refine Below.far' ?_ ?_ _) | (exact (Eq.refl _ : (_ : List Value) = _)) | omega | go_size))) (by exact RowIn.row (lo := 0) (hi := w5.heap.size) (by repeat' (first | (with_reducible assumption) | (with_reducible exact Below.refl _ _) | (with_reducible refine Blk.drewN ?_ _) | (with_reducible refine RowIn.drewN ?_ _) | (with_reducible refine below_drewN ?_ _) | (with_reducible refine Blk.drew ?_) | (with_reducible refine RowIn.drew ?_) | (with_reducible refine Below.drew ?_) | (with_reducible refine Blk.new' ?_ ?_ <;> first | (with_reducible rfl) | (simp; done)) | (with_reducible refine Blk.alloc ?_ _) | (with_reducible refine RowIn.alloc ?_ _) | (with_reducible refine Below.alloc ?_ ?_ _) | (with_reducible apply Blk.set') | (with_reducible apply Blk.far') | (with_reducible refine RowIn.far' ?_ ?_ _) | (with_reducible refine Below.far' ?_ ?_ _) | (exact (Eq.refl _ : (_ : List Value) = _)) | omega | go_size))) (by omega) HE3.out).mono ?_
      rintro e w7 ⟨rfl, b7⟩
      have s7 := b7.size
      try simp only [World.size_alloc, World.size_setCell, World.size_drew, size_drewN] at s7
      obtain ⟨zs_7, zx_7, rs_7, rt_7, rb_7, rz_7, rx_7, rlx_7, ry_7, rly_7, bb_7⟩ : Blk w7 (w.heap.size) 40 [.int .i64 (Ln : Int), .int .i64 (p0 : Int), .int .i64 (p1 : Int), .int .u64 (q0 : Int), .int .u64 (q1 : Int), .slice As ns cs, .int .i64 (((xs.length : Nat)) : Int)] ∧ Blk w7 (w3.heap.size) 40 [.int .i64 (n2 : Int), .int .i64 (u0 : Int), .int .i64 (u1 : Int), .int .u64 (v0 : Int), .int .u64 (v1 : Int), .slice Ax mx cx, .int .i64 (((xx.length : Nat)) : Int)] ∧ RowIn .u8 w7 (0) (w.heap.size) As ns (pack xs) ∧ RowIn .u8 w7 (0) (w.heap.size) (some ⟨0, 0, none⟩) 64 dbTab ∧ RowIn .u8 w7 (0) (w.heap.size) Ab nb xsb ∧ RowIn .i64 w7 (0) (w.heap.size) Az nz xsz ∧ RowIn .u8 w7 (w2.heap.size + 0) (w3.heap.size) Ax mx (pack xx) ∧ RowIn .u32 w7 (w2.heap.size + 0) (w3.heap.size) Bx kx zx ∧ RowIn .u8 w7 (0) (w5.heap.size) Ay my (pack xy) ∧ RowIn .u32 w7 (0) (w5.heap.size) By ky zy ∧ Below w.heap.size w w7 := by
        refine ⟨?_, ?_, ?_, ?_, ?_, ?_, ?_, ?_, ?_, ?_, ?_⟩
        all_goals repeat' (first | (with_reducible assumption) | (with_reducible exact Below.refl _ _) | (with_reducible refine Blk.drewN ?_ _) | (with_reducible refine RowIn.drewN ?_ _) | (with_reducible refine below_drewN ?_ _) | (with_reducible refine Blk.drew ?_) | (with_reducible refine RowIn.drew ?_) | (with_reducible refine Below.drew ?_) | (with_reducible refine Blk.new' ?_ ?_ <;> first | (with_reducible rfl) | (simp; done)) | (with_reducible refine Blk.alloc ?_ _) | (with_reducible refine RowIn.alloc ?_ _) | (with_reducible refine Below.alloc ?_ ?_ _) | (with_reducible apply Blk.set') | (with_reducible apply Blk.far') | (with_reducible refine RowIn.far' ?_ ?_ _) | (with_reducible refine Below.far' ?_ ?_ _) | (with_reducible refine Blk.after ?_ b7) | (with_reducible refine RowIn.belowS ?_ b7) | (with_reducible refine Below.after ?_ b7 ?_) | (exact (Eq.refl _ : (_ : List Value) = _)) | omega | go_size)
      clear zs_6 zx_6 rs_6 rt_6 rb_6 rz_6 rx_6 rlx_6 ry_6 rly_6 bb_6 ks_6 fs_6 ls_6 kx_6 fx_6 lx_6 b7
      have ks_7 := zs_7.cell; have fs_7 := zs_7.frozen; have ls_7 := zs_7.lt
      have kx_7 := zx_7.cell; have fx_7 := zx_7.frozen; have lx_7 := zx_7.lt
      go_wp2_with fail
      refine (rrc_val n2 u0 u1 v0 v1 mx cx Ax xx 0 _ (by omega) HF1.out.1 (by exact RowIn.row (lo := w2.heap.size + 0) (hi := w3.heap.size) (by repeat' (first | (with_reducible assumption) | (with_reducible exact Below.refl _ _) | (with_reducible refine Blk.drewN ?_ _) | (with_reducible refine RowIn.drewN ?_ _) | (with_reducible refine below_drewN ?_ _) | (with_reducible refine Blk.drew ?_) | (with_reducible refine RowIn.drew ?_) | (with_reducible refine Below.drew ?_) | (with_reducible refine Blk.new' ?_ ?_ <;> first | (with_reducible rfl) | (simp; done)) | (with_reducible refine Blk.alloc ?_ _) | (with_reducible refine RowIn.alloc ?_ _) | (with_reducible refine Below.alloc ?_ ?_ _) | (with_reducible apply Blk.set') | (with_reducible apply Blk.far') | (with_reducible refine RowIn.far' ?_ ?_ _) | (with_reducible refine Below.far' ?_ ?_ _) | (exact (Eq.refl _ : (_ : List Value) = _)) | omega | go_size))) hcx (by omega) (Or.inl ⟨rfl, by rw [HXx.out]; exact HF1.out⟩)).mono ?_
      rintro e w8 ⟨rfl, b8⟩
      have s8 := b8.size
      try simp only [World.size_alloc, World.size_setCell, World.size_drew, size_drewN] at s8
      obtain ⟨zs_8, zx_8, rs_8, rt_8, rb_8, rz_8, rx_8, rlx_8, ry_8, rly_8, bb_8⟩ : Blk w8 (w.heap.size) 40 [.int .i64 (Ln : Int), .int .i64 (p0 : Int), .int .i64 (p1 : Int), .int .u64 (q0 : Int), .int .u64 (q1 : Int), .slice As ns cs, .int .i64 (((xs.length : Nat)) : Int)] ∧ Blk w8 (w3.heap.size) 40 [.int .i64 (n2 : Int), .int .i64 (u0 : Int), .int .i64 (u1 : Int), .int .u64 (v0 : Int), .int .u64 (v1 : Int), .slice Ax mx cx, .int .i64 (((xx.length : Nat)) : Int)] ∧ RowIn .u8 w8 (0) (w.heap.size) As ns (pack xs) ∧ RowIn .u8 w8 (0) (w.heap.size) (some ⟨0, 0, none⟩) 64 dbTab ∧ RowIn .u8 w8 (0) (w.heap.size) Ab nb xsb ∧ RowIn .i64 w8 (0) (w.heap.size) Az nz xsz ∧ RowIn .u8 w8 (w2.heap.size + 0) (w3.heap.size) Ax mx (pack xx) ∧ RowIn .u32 w8 (w2.heap.size + 0) (w3.heap.size) Bx kx zx ∧ RowIn .u8 w8 (0) (w5.heap.size) Ay my (pack xy) ∧ RowIn .u32 w8 (0) (w5.heap.size) By ky zy ∧ Below w.heap.size w w8 := by
        refine ⟨?_, ?_, ?_, ?_, ?_, ?_, ?_, ?_, ?_, ?_, ?_⟩
        all_goals repeat' (first | (with_reducible assumption) | (with_reducible exact Below.refl _ _) | (with_reducible refine Blk.drewN ?_ _) | (with_reducible refine RowIn.drewN ?_ _) | (with_reducible refine below_drewN ?_ _) | (with_reducible refine Blk.drew ?_) | (with_reducible refine RowIn.drew ?_) | (with_reducible refine Below.drew ?_) | (with_reducible refine Blk.new' ?_ ?_ <;> first | (with_reducible rfl) | (simp; done)) | (with_reducible refine Blk.alloc ?_ _) | (with_reducible refine RowIn.alloc ?_ _) | (with_reducible refine Below.alloc ?_ ?_ _) | (with_reducible apply Blk.set') | (with_reducible apply Blk.far') | (with_reducible refine RowIn.far' ?_ ?_ _) | (with_reducible refine Below.far' ?_ ?_ _) | (with_reducible refine Blk.after ?_ b8) | (with_reducible refine RowIn.belowS ?_ b8) | (with_reducible refine Below.after ?_ b8 ?_) | (exact (Eq.refl _ : (_ : List Value) = _)) | omega | go_size)
      clear zs_7 zx_7 rs_7 rt_7 rb_7 rz_7 rx_7 rlx_7 ry_7 rly_7 bb_7 ks_7 fs_7 ls_7 kx_7 fx_7 lx_7 b8
      have ks_8 := zs_8.cell; have fs_8 := zs_8.frozen; have ls_8 := zs_8.lt
      have kx_8 := zx_8.cell; have fx_8 := zx_8.frozen; have lx_8 := zx_8.lt
      go_wp2_with fail
      refine (alive10 _ (by exact RowIn.row (lo := 0) (hi := w.heap.size) (by repeat' (first | (with_reducible assumption) | (with_reducible exact Below.refl _ _) | (with_reducible refine Blk.drewN ?_ _) | (with_reducible refine RowIn.drewN ?_ _) | (with_reducible refine below_drewN ?_ _) | (with_reducible refine Blk.drew ?_) | (with_reducible refine RowIn.drew ?_) | (with_reducible refine Below.drew ?_) | (with_reducible refine Blk.new' ?_ ?_ <;> first | (with_reducible rfl) | (simp; done)) | (with_reducible refine Blk.alloc ?_ _) | (with_reducible refine RowIn.alloc ?_ _) | (with_reducible refine Below.alloc ?_ ?_ _) | (with_reducible apply Blk.set') | (with_reducible apply Blk.far') | (with_reducible refine RowIn.far' ?_ ?_ _) | (with_reducible refine Below.far' ?_ ?_ _) | (exact (Eq.refl _ : (_ : List Value) = _)) | omega | go_size)))).mono ?_
      rintro e w9 ⟨rfl, b9⟩
      have s9 := b9.size
      try simp only [World.size_alloc, World.size_setCell, World.size_drew, size_drewN] at s9
      have bb_9 : Below w.heap.size w w9 := by
        repeat' (first | (with_reducible assumption) | (with_reducible exact Below.refl _ _) | (with_reducible refine Blk.drewN ?_ _) | (with_reducible refine RowIn.drewN ?_ _) | (with_reducible refine below_drewN ?_ _) | (with_reducible refine Blk.drew ?_) | (with_reducible refine RowIn.drew ?_) | (with_reducible refine Below.drew ?_) | (with_reducible refine Blk.new' ?_ ?_ <;> first | (with_reducible rfl) | (simp; done)) | (with_reducible refine Blk.alloc ?_ _) | (with_reducible refine RowIn.alloc ?_ _) | (with_reducible refine Below.alloc ?_ ?_ _) | (with_reducible apply Blk.set') | (with_reducible apply Blk.far') | (with_reducible refine RowIn.far' ?_ ?_ _) | (with_reducible refine Below.far' ?_ ?_ _) | (with_reducible refine Blk.after ?_ b9) | (with_reducible refine RowIn.belowS ?_ b9) | (with_reducible refine Below.after ?_ b9 ?_) | (exact (Eq.refl _ : (_ : List Value) = _)) | omega | go_size)
      clear zs_8 zx_8 rs_8 rt_8 rb_8 rz_8 rx_8 rlx_8 ry_8 rly_8 bb_8 ks_8 fs_8 ls_8 kx_8 fx_8 lx_8 b9
      go_wp2
      go_ret
      refine ⟨rfl, ?_⟩
      repeat' (first | (with_reducible assumption) | (with_reducible exact Below.refl _ _) | (with_reducible refine Blk.drewN ?_ _) | (with_reducible refine RowIn.drewN ?_ _) | (with_reducible refine below_drewN ?_ _) | (with_reducible refine Blk.drew ?_) | (with_reducible refine RowIn.drew ?_) | (with_reducible refine Below.drew ?_) | (with_reducible refine Blk.new' ?_ ?_ <;> first | (with_reducible rfl) | (simp; done)) | (with_reducible refine Blk.alloc ?_ _) | (with_reducible refine RowIn.alloc ?_ _) | (with_reducible refine Below.alloc ?_ ?_ _) | (with_reducible apply Blk.set') | (with_reducible apply Blk.far') | (with_reducible refine RowIn.far' ?_ ?_ _) | (with_reducible refine Below.far' ?_ ?_ _) | (exact (Eq.refl _ : (_ : List Value) = _)) | omega | go_size)


end Go.Proofs.YtppilidcjlnmoaaDoor

