/-
  Contract of the reference of chapter 10: Fed.
-/
import Derived.Test.YtppilidcjlnmoaaDoorResC
import Derived.Test.YtppilidcjlnmoaaDoorRefN
import Derived.Test.YtppilidcjlnmoaaDoorRefZ
import Derived.Test.YtppilidcjlnmoaaDoorRefD
import Derived.Test.YtppilidcjlnmoaaDoorRefB
import Derived.Test.YtppilidcjlnmoaaDoorSt
namespace Go.Proofs.YtppilidcjlnmoaaDoor
open Go.RowKit Cad Cad.Bit Cad.Code
set_option linter.unusedVariables false
set_option linter.unusedSimpArgs false


set_option maxRecDepth 100000 in
set_option maxHeartbeats 4000000 in
theorem rfed_ok (n x0 x1 y0 y1 m c : Nat) (A : Option Addr) (bs : List Bool) (D : Option Addr) (nb cb : Nat) (xs : List Int) (w : World) (hn : n ≤ 4000) (hf : FOk n ⟨x0, x1, y0, y1⟩ bs) (ha : Row .u8 w A m (pack bs)) (hc : m ≤ c ∧ c ≤ 9223372036854775807) (hd : Row .u8 w D nb xs) (hdc : nb ≤ cb ∧ cb ≤ 9223372036854775807) (hx : Within 0 255 xs) (hb : nb ≤ 1000) :
    Calls Tryd.prog 54 #[.agg #[.int .i64 (n : Int), .int .i64 (x0 : Int), .int .i64 (x1 : Int), .int .u64 (y0 : Int), .int .u64 (y1 : Int), .slice A m c, .int .i64 (((bs.length : Nat)) : Int)], .slice D nb cb] w (RetF w (feed n ⟨x0, x1, y0, y1⟩ (bs ++ unpack xs))) := by
  have hri := ha.rowIn
  have hdi := hd.rowIn
  have HXL := Lib.hid hd.len
  have hml : m ≤ 41250 := by have := ha.len; rw [pack_len] at this; have := hf.short; unfold bytesFor at *; omega
  have hbl := hf.short
  have HF := Lib.hid hf
  clear hf
  go_enter Tryd.func54, Tryd.ntmps54
  go_wp2_with fail
  refine (rtwin_any A m c _ (pack bs) _ (by exact RowIn.row (lo := 0) (hi := w.heap.size) (by repeat' (first | (with_reducible assumption) | (with_reducible exact Below.refl _ _) | (with_reducible refine Blk.drewN ?_ _) | (with_reducible refine RowIn.drewN ?_ _) | (with_reducible refine below_drewN ?_ _) | (with_reducible refine Blk.drew ?_) | (with_reducible refine RowIn.drew ?_) | (with_reducible refine Below.drew ?_) | (with_reducible refine Blk.new' ?_ ?_ <;> first | (with_reducible rfl) | (simp; done)) | (with_reducible refine Blk.alloc ?_ _) | (with_reducible refine RowIn.alloc ?_ _) | (with_reducible refine Below.alloc ?_ ?_ _) | (with_reducible apply Blk.set') | (with_reducible apply Blk.far') | (with_reducible refine RowIn.far' ?_ ?_ _) | (with_reducible refine Below.far' ?_ ?_ _) | rfl | omega | go_size))) (by omega)).mono ?_
  rintro e w1 ⟨B, d, rfl, own1, b1⟩
  replace own1 := own1.mono (base' := w.heap.size + 1 + 1) (by go_size)
  have s1 := b1.size
  try simp only [World.size_alloc, World.size_setCell, World.size_drew, size_drewN] at s1
  obtain ⟨zs_1, zr_1, ra_1, rd_1, bb_1⟩ : Blk w1 (w.heap.size) 40 [.int .i64 (n : Int), .int .i64 (x0 : Int), .int .i64 (x1 : Int), .int .u64 (y0 : Int), .int .u64 (y1 : Int), .slice A m c, .int .i64 (((bs.length : Nat)) : Int)] ∧ Blk w1 (w.heap.size + 1) 40 [.int .i64 0, .int .i64 0, .int .i64 0, .int .u64 0, .int .u64 0, .slice none 0 0, .int .i64 0] ∧ RowIn .u8 w1 (0) (w.heap.size) A m (pack bs) ∧ RowIn .u8 w1 (0) (w.heap.size) D nb xs ∧ Below w.heap.size w w1 := by
    refine ⟨?_, ?_, ?_, ?_, ?_⟩
    all_goals repeat' (first | (with_reducible assumption) | (with_reducible exact Below.refl _ _) | (with_reducible refine Blk.drewN ?_ _) | (with_reducible refine RowIn.drewN ?_ _) | (with_reducible refine below_drewN ?_ _) | (with_reducible refine Blk.drew ?_) | (with_reducible refine RowIn.drew ?_) | (with_reducible refine Below.drew ?_) | (with_reducible refine Blk.new' ?_ ?_ <;> first | (with_reducible rfl) | (simp; done)) | (with_reducible refine Blk.alloc ?_ _) | (with_reducible refine RowIn.alloc ?_ _) | (with_reducible refine Below.alloc ?_ ?_ _) | (with_reducible apply Blk.set') | (with_reducible apply Blk.far') | (with_reducible refine RowIn.far' ?_ ?_ _) | (with_reducible refine Below.far' ?_ ?_ _) | (with_reducible refine Blk.after ?_ b1) | (with_reducible refine RowIn.belowS ?_ b1) | (with_reducible refine Below.after ?_ b1 ?_) | rfl | omega | go_size)
  clear b1
  have ks_1 := zs_1.cell; have fs_1 := zs_1.frozen; have ls_1 := zs_1.lt
  have kr_1 := zr_1.cell; have fr_1 := zr_1.frozen; have lr_1 := zr_1.lt
  go_wp2_with fail
  go_loopg [8] nb (fun k v wr => ∃ (i m9 d9 : Nat) (B9 : Option Addr) (y : List Bool), i + k = nb ∧ v = .int .i64 (i : Nat) ∧ Hid (y = bs ++ unpack (xs.take i)) ∧ y.length ≤ 80 + 8 * i ∧ Own wr (w.heap.size + 1 + 1) 5 .u8 B9 m9 d9 (pack y) ∧ Blk wr (w.heap.size) 40 [.int .i64 (n : Int), .int .i64 (x0 : Int), .int .i64 (x1 : Int), .int .u64 (y0 : Int), .int .u64 (y1 : Int), .slice A m c, .int .i64 (((bs.length : Nat)) : Int)] ∧ Blk wr (w.heap.size + 1) 40 [.int .i64 0, .int .i64 0, .int .i64 0, .int .u64 0, .int .u64 0, .slice none 0 0, .int .i64 0] ∧ Blk wr (w1.heap.size) 24 [.slice B9 m9 d9, .int .i64 ((y.length : Nat) : Int)] ∧ Below w.heap.size w wr ∧ w1.heap.size < wr.heap.size)
  case atStart =>
    refine ⟨0, m, d, B, bs, by omega, rfl, Lib.hid ?_, by omega, own1.alloc _, ?_, ?_, ?_, ?_, by go_size⟩
    · rw [List.take_zero, show unpack ([] : List Int) = [] from rfl, List.append_nil]
    all_goals repeat' (first | (with_reducible assumption) | (with_reducible exact Below.refl _ _) | (with_reducible refine Blk.drewN ?_ _) | (with_reducible refine RowIn.drewN ?_ _) | (with_reducible refine below_drewN ?_ _) | (with_reducible refine Blk.drew ?_) | (with_reducible refine RowIn.drew ?_) | (with_reducible refine Below.drew ?_) | (with_reducible refine Blk.new' ?_ ?_ <;> first | (with_reducible rfl) | (simp; done)) | (with_reducible refine Blk.alloc ?_ _) | (with_reducible refine RowIn.alloc ?_ _) | (with_reducible refine Below.alloc ?_ ?_ _) | (with_reducible apply Blk.set') | (with_reducible apply Blk.far') | (with_reducible refine RowIn.far' ?_ ?_ _) | (with_reducible refine Below.far' ?_ ?_ _) | rfl | omega | go_size)
  case round =>
    obtain ⟨i, m2, d2, B2, y, hi, rfl, HY, hyl, own5, zs_5, zr_5, za_5, bb_5, sw1⟩ := hrel
    clear own1 zs_1 zr_1 ra_1 rd_1 bb_1 ks_1 fs_1 ls_1 kr_1 fr_1 lr_1
    have ks_5 := zs_5.cell; have fs_5 := zs_5.frozen; have ls_5 := zs_5.lt
    have kr_5 := zr_5.cell; have fr_5 := zr_5.frozen; have lr_5 := zr_5.lt
    have ka_5 := za_5.cell; have fa_5 := za_5.frozen; have la_5 := za_5.lt
    have s5 := bb_5.size
    by_cases hlt : i < nb
    · obtain ⟨bl, ol, rfl, hbl2, hcell⟩ := hd.at (by omega)
      obtain ⟨v, hv⟩ : ∃ v, nth xs i = v := ⟨_, rfl⟩
      have hvb := hx.nth (by decide) (by decide) i
      rw [hv] at hvb
      have c0 : wr.cell? ⟨bl, ol + i, none⟩ = some (.int .u8 v) := (bb_5.cell (p := ⟨bl, ol + i, none⟩) hbl2).trans (by rw [hcell i hlt, hv])
      obtain ⟨v, rfl⟩ := Int.eq_ofNat_of_zero_le hvb.1
      have hv8 : v < 256 := by omega
      have hvw : IntKind.u64.wrap (v : Int) = (v : Int) := IntWalk.u64_in _ (by omega)
      have HTK : Hid (xs.take (i + 1) = xs.take i ++ [(v : Int)]) := Lib.hid (by rw [take_next (by rw [HXL.out]; exact hlt), hv])
      have hltw : (i : Int) < (nb : Int) := by omega
      have hblr : bl < wr.heap.size := by omega
      have c0d : wr.drew.cell? ⟨bl, ol + i, none⟩ = some (.int .u8 (v : Int)) := c0
      have ka_5d := (Blk.drew za_5).cell
      clear hcell hv
      go_wp2_with fail
      refine wp_still_tail 6 (by kernel_rfl) (by kernel_rfl) ?_
      simp only [List.take_succ_cons, List.take_zero, List.drop_succ_cons, List.drop_zero]
      repeat still_step
      refine wpStill_nil ?_
      go_wp2_with fail
      have own5d := own5.drew
      have zs_5d := Blk.drew zs_5; have zr_5d := Blk.drew zr_5; have za_5d := Blk.drew za_5; have bb_5d := bb_5.drew
      refine (rnumber_any (w.heap.size + 1 + 1) B2 m2 d2 y v 8 _ (by omega) (by omega) (by omega) (by go_size) own5d).mono ?_
      rintro e w6 ⟨B6, m6, d6, y6, rfl, own6, HY6, fr6, hB6⟩
      have s6 := fr6.size; try simp only [World.size_drew] at s6
      have zs_6 := zs_5d.frm fr6 (own5d.ne_blk zs_5d (by decide)); have zr_6 := zr_5d.frm fr6 (own5d.ne_blk zr_5d (by decide)); have za_6 := za_5d.frm fr6 (own5d.ne_blk za_5d (by decide))
      have ka_6 := za_6.cell; have fa_6 := za_6.frozen; have la_6 := za_6.lt
      have bb_6 : Below w.heap.size w w6 := bb_5d.trans (fr6.below (by go_size) (fun k hk h => absurd (own5d.block k h).1 (by omega)))
      have hne6 : blockOf B6 ≠ some (w1.heap.size) := own6.ne_blk za_6 (by decide)
      have HY7 : Hid (y6 = bs ++ unpack (xs.take (i + 1))) := Lib.hid (by rw [HY6.out, HY.out, HTK.out, Cad.Bit.unpack_append, List.append_assoc]; rfl)
      have hy6 : y6.length ≤ 80 + 8 * (i + 1) := by rw [HY6.out, List.length_append, lowBits_len]; omega
      have s6w := bb_6.size
      go_wp2
      go_roundg (nb - (i + 1))
      case measure => omega
      case rel =>
        refine ⟨i + 1, m6, d6, B6, y6, by omega, by go_num, HY7, hy6, (own6.far' hne6 _).far' hne6 _, ?_, ?_, ?_, ?_, by go_size⟩
        · exact Blk.far2 zs_6 (by omega)
        · exact Blk.far2 zr_6 (by omega)
        · exact Blk.set2 za_6
        · exact Below.far2 bb_6 (by omega)
    · obtain rfl : i = nb := by omega
      obtain ⟨G, HG⟩ : ∃ G, Hid (G = feed n ⟨x0, x1, y0, y1⟩ (bs ++ unpack xs)) := ⟨_, Lib.hid rfl⟩
      have HYF : Hid (y = bs ++ unpack xs) := Lib.hid (by rw [HY.out, List.take_of_length_le (by rw [HXL.out]; omega)])
      have hyc := own5.rowC.2
      have ry0 := own5.rowIn
      clear HY own5
      obtain ⟨w20, hw20⟩ : ∃ w20, w20 = wr := ⟨_, rfl⟩
      subst hw20
      go_wp2_with fail
      have s20 := bb_5.size
      have hym : y.length ≤ 8080 := by omega
      go_loopg [9, 10] n (fun k vo va wr => ∃ (a p0 p1 q0 q1 j dd : Nat) (Bo : Option Addr) (us : List Nat) (zs : List Int), va = .int .i64 (a : Nat) ∧ vo = .slice Bo j dd ∧ a ≤ y.length ∧ us.length + k ≤ n ∧ n ≤ us.length + k ∧ j ≤ us.length ∧ us.length ≤ j ∧ Hid (Dual.Ok ⟨p0, p1, q0, q1⟩) ∧ Hid (G = (feed k ⟨p0, p1, q0, q1⟩ (y.drop a)).app us) ∧ Hid (zs = ints us) ∧ Own wr w20.heap.size 55 .u32 Bo j dd zs ∧ Blk wr (w.heap.size) 40 [.int .i64 (k : Int), .int .i64 (p0 : Int), .int .i64 (p1 : Int), .int .u64 (q0 : Int), .int .u64 (q1 : Int), .slice A m c, .int .i64 (((bs.length : Nat)) : Int)] ∧ Blk wr (w.heap.size + 1) 40 [.int .i64 0, .int .i64 0, .int .i64 0, .int .u64 0, .int .u64 0, .slice none 0 0, .int .i64 0] ∧ Blk wr (w1.heap.size) 24 [.slice B2 m2 d2, .int .i64 ((y.length : Nat) : Int)] ∧ RowIn .u8 wr (w.heap.size + 1 + 1) w20.heap.size B2 m2 (pack y) ∧ Below w.heap.size w wr ∧ w20.heap.size ≤ wr.heap.size)
      case atStart => exact ⟨0, x0, x1, y0, y1, 0, 0, none, [], [], rfl, rfl, by omega, by simp, by simp, Nat.le_refl _, Nat.le_refl _, Lib.hid HF.out.1, Lib.hid (by rw [HG.out, ← HYF.out, Fed.app_nil, List.drop_zero]), Lib.hid rfl, Own.nil _ _ _ _, zs_5, zr_5, za_5, ry0, bb_5, Nat.le_refl _⟩
      case round =>
        obtain ⟨a, p0, p1, q0, q1, j, dd, Bo, us, zs, rfl, rfl, haL, hus, hus2, hjj, hjj2, HPO, HGG, HZ, own8, zs_8, zr_8, za_8, ry_8, bb_8, sw20⟩ := hrel
        clear ks_5 fs_5 ls_5 zs_5
        clear kr_5 fr_5 lr_5 zr_5
        clear ka_5 fa_5 la_5 za_5
        have s8 := bb_8.size
        have ks_8 := zs_8.cell; have fs_8 := zs_8.frozen; have ls_8 := zs_8.lt
        have kr_8 := zr_8.cell; have fr_8 := zr_8.frozen; have lr_8 := zr_8.lt
        have ka_8 := za_8.cell; have fa_8 := za_8.frozen; have la_8 := za_8.lt
        by_cases hgt : 0 < gk
        · obtain ⟨r, hkr⟩ : ∃ r, gk = r + 1 := ⟨gk - 1, by omega⟩
          have HKR := Lib.hid hkr
          clear hkr
          have hgp : (0 : Int) < (gk : Int) := by omega
          cases hrd : readD (y.drop a) ⟨p0, p1, q0, q1⟩ with
          | err er =>
            have hee := readD_err HPO.out hrd
            have hg0 := HGG.out
            rw [HKR.out] at hg0
            have HG0 := Lib.hid hg0
            have HRD : Hid (gdR y a ⟨p0, p1, q0, q1⟩ = (0, 0, (er : Int))) := Lib.hid (by unfold gdR; rw [hrd])
            have HRR := Lib.hid hrd
            clear hrd hg0
            have hg1 := (fun W (hr : Row .u8 W B2 m2 (pack y)) => rdgot_ret B2 m2 d2 y a p0 p1 q0 q1 W hr hyc (by omega) (by omega) HPO.out.1 HPO.out.2.1)
            rw [HRD.out] at hg1
            replace hg1 := Lib.hid hg1
            rcases hee with rfl | ⟨rfl, hl81⟩
            · go_wp2_with fail
              refine (hg1.out _ (by exact RowIn.row (lo := w.heap.size + 1 + 1) (hi := w20.heap.size) (by repeat' (first | (with_reducible assumption) | (with_reducible exact Below.refl _ _) | (with_reducible refine Blk.drewN ?_ _) | (with_reducible refine RowIn.drewN ?_ _) | (with_reducible refine below_drewN ?_ _) | (with_reducible refine Blk.drew ?_) | (with_reducible refine RowIn.drew ?_) | (with_reducible refine Below.drew ?_) | (with_reducible refine Blk.new' ?_ ?_ <;> first | (with_reducible rfl) | (simp; done)) | (with_reducible refine Blk.alloc ?_ _) | (with_reducible refine RowIn.alloc ?_ _) | (with_reducible refine Below.alloc ?_ ?_ _) | (with_reducible apply Blk.set') | (with_reducible apply Blk.far') | (with_reducible refine RowIn.far' ?_ ?_ _) | (with_reducible refine Below.far' ?_ ?_ _) | rfl | omega | go_size)))).mono ?_
              rintro e w10 ⟨rfl, b10⟩
              have own10 := own8.below b10 (Nat.le_refl _)
              have s10 := b10.size
              try simp only [World.size_alloc, World.size_setCell, World.size_drew, size_drewN] at s10
              obtain ⟨zs_10, zr_10, za_10, ry_10, bb_10⟩ : Blk w10 (w.heap.size) 40 [.int .i64 (gk : Int), .int .i64 (p0 : Int), .int .i64 (p1 : Int), .int .u64 (q0 : Int), .int .u64 (q1 : Int), .slice A m c, .int .i64 (((bs.length : Nat)) : Int)] ∧ Blk w10 (w.heap.size + 1) 40 [.int .i64 0, .int .i64 0, .int .i64 0, .int .u64 0, .int .u64 0, .slice none 0 0, .int .i64 0] ∧ Blk w10 (w1.heap.size) 24 [.slice B2 m2 d2, .int .i64 ((y.length : Nat) : Int)] ∧ RowIn .u8 w10 (w.heap.size + 1 + 1) (w20.heap.size) B2 m2 (pack y) ∧ Below w.heap.size w w10 := by
                refine ⟨?_, ?_, ?_, ?_, ?_⟩
                all_goals repeat' (first | (with_reducible assumption) | (with_reducible exact Below.refl _ _) | (with_reducible refine Blk.drewN ?_ _) | (with_reducible refine RowIn.drewN ?_ _) | (with_reducible refine below_drewN ?_ _) | (with_reducible refine Blk.drew ?_) | (with_reducible refine RowIn.drew ?_) | (with_reducible refine Below.drew ?_) | (with_reducible refine Blk.new' ?_ ?_ <;> first | (with_reducible rfl) | (simp; done)) | (with_reducible refine Blk.alloc ?_ _) | (with_reducible refine RowIn.alloc ?_ _) | (with_reducible refine Below.alloc ?_ ?_ _) | (with_reducible apply Blk.set') | (with_reducible apply Blk.far') | (with_reducible refine RowIn.far' ?_ ?_ _) | (with_reducible refine Below.far' ?_ ?_ _) | (with_reducible refine Blk.after ?_ b10) | (with_reducible refine RowIn.belowS ?_ b10) | (with_reducible refine Below.after ?_ b10 ?_) | rfl | omega | go_size)
              clear b10
              have ks_10 := zs_10.cell; have fs_10 := zs_10.frozen; have ls_10 := zs_10.lt
              have kr_10 := zr_10.cell; have fr_10 := zr_10.frozen; have lr_10 := zr_10.lt
              have ka_10 := za_10.cell; have fa_10 := za_10.frozen; have la_10 := za_10.lt
              have hg := feed_waits HG0.out HRR.out
              rw [← HKR.out] at hg
              go_wp2_with fail
              have ly := y.length
              refine (rbetween_any B2 m2 d2 y a y.length _ (by exact RowIn.row (lo := w.heap.size + 1 + 1) (hi := w20.heap.size) (by repeat' (first | (with_reducible assumption) | (with_reducible exact Below.refl _ _) | (with_reducible refine Blk.drewN ?_ _) | (with_reducible refine RowIn.drewN ?_ _) | (with_reducible refine below_drewN ?_ _) | (with_reducible refine Blk.drew ?_) | (with_reducible refine RowIn.drew ?_) | (with_reducible refine Below.drew ?_) | (with_reducible refine Blk.new' ?_ ?_ <;> first | (with_reducible rfl) | (simp; done)) | (with_reducible refine Blk.alloc ?_ _) | (with_reducible refine RowIn.alloc ?_ _) | (with_reducible refine Below.alloc ?_ ?_ _) | (with_reducible apply Blk.set') | (with_reducible apply Blk.far') | (with_reducible refine RowIn.far' ?_ ?_ _) | (with_reducible refine Below.far' ?_ ?_ _) | rfl | omega | go_size))) hyc (by omega) haL (Nat.le_refl _)).mono ?_
              rintro e w12 ⟨Ap, mp, cp, xp, rfl, hcp, rp, HXp, b12⟩
              have HPD : Hid (xp = y.drop a) := Lib.hid (by rw [HXp.out, List.take_of_length_le (by rw [List.length_drop]; omega)])
              have Lp : xp.length ≤ y.length - a ∧ y.length - a ≤ xp.length := by rw [HPD.out, List.length_drop]; omega
              obtain ⟨Lp1, Lp2⟩ := Lp
              clear HXp
              have own12 := (own10).below b12 (Nat.le_refl _)
              have hc12 := own12.rowC.2
              have hneS : blockOf Bo ≠ some (w.heap.size) := fun h => by have := (own12.block _ h).1; omega
              have hneR : blockOf Bo ≠ some (w.heap.size + 1) := fun h => by have := (own12.block _ h).1; omega
              have s12 := b12.size
              try simp only [World.size_alloc, World.size_setCell, World.size_drew, size_drewN] at s12
              obtain ⟨zs_12, zr_12, za_12, ry_12, bb_12⟩ : Blk w12 (w.heap.size) 40 [.int .i64 (gk : Int), .int .i64 (p0 : Int), .int .i64 (p1 : Int), .int .u64 (q0 : Int), .int .u64 (q1 : Int), .slice A m c, .int .i64 (((bs.length : Nat)) : Int)] ∧ Blk w12 (w.heap.size + 1) 40 [.int .i64 0, .int .i64 0, .int .i64 0, .int .u64 0, .int .u64 0, .slice none 0 0, .int .i64 0] ∧ Blk w12 (w1.heap.size) 24 [.slice B2 m2 d2, .int .i64 ((y.length : Nat) : Int)] ∧ RowIn .u8 w12 (w.heap.size + 1 + 1) (w20.heap.size) B2 m2 (pack y) ∧ Below w.heap.size w w12 := by
                refine ⟨?_, ?_, ?_, ?_, ?_⟩
                all_goals repeat' (first | (with_reducible assumption) | (with_reducible exact Below.refl _ _) | (with_reducible refine Blk.drewN ?_ _) | (with_reducible refine RowIn.drewN ?_ _) | (with_reducible refine below_drewN ?_ _) | (with_reducible refine Blk.drew ?_) | (with_reducible refine RowIn.drew ?_) | (with_reducible refine Below.drew ?_) | (with_reducible refine Blk.new' ?_ ?_ <;> first | (with_reducible rfl) | (simp; done)) | (with_reducible refine Blk.alloc ?_ _) | (with_reducible refine RowIn.alloc ?_ _) | (with_reducible refine Below.alloc ?_ ?_ _) | (with_reducible apply Blk.set') | (with_reducible apply Blk.far') | (with_reducible refine RowIn.far' ?_ ?_ _) | (with_reducible refine Below.far' ?_ ?_ _) | (with_reducible refine Blk.after ?_ b12) | (with_reducible refine RowIn.belowS ?_ b12) | (with_reducible refine Below.after ?_ b12 ?_) | rfl | omega | go_size)
              clear zs_10 zr_10 za_10 ry_10 bb_10 ks_10 fs_10 ls_10 kr_10 fr_10 lr_10 ka_10 fa_10 la_10 b12
              have ks_12 := zs_12.cell; have fs_12 := zs_12.frozen; have ls_12 := zs_12.lt
              have kr_12 := zr_12.cell; have fr_12 := zr_12.frozen; have lr_12 := zr_12.lt
              have ka_12 := za_12.cell; have fa_12 := za_12.frozen; have la_12 := za_12.lt
              replace rp := rp.mono (lo' := w20.heap.size) (by omega) (Nat.le_refl _)
              have e1 : ((gk : Int) == 0) = false := beq_eq_false_iff_ne.2 (by omega)
              go_wp2
              all_goals try (go_region; all_goals go_wp2)
              all_goals
                refine bodyPost_ret (v := .tuple #[.agg #[.int .i64 (gk : Int), .int .i64 (p0 : Int), .int .i64 (p1 : Int), .int .u64 (q0 : Int), .int .u64 (q1 : Int), .slice Ap mp cp, .int .i64 (((xp.length : Nat)) : Int)], .slice Bo j dd, .int .i64 0]) (by simp [results, Tryd.results54, go_sem, ks_12, ls_12, fs_12, kr_12, lr_12, fr_12]) rfl ?_
                rw [← HG.out, hg]
                refine ⟨?_, p0, p1, q0, q1, mp, cp, j, dd, Ap, Bo, xp, zs, rfl, Lib.hid rfl, hcp, HPD, ?_, hc12, HZ, ?_⟩
                · repeat' (first | (with_reducible assumption) | (with_reducible exact Below.refl _ _) | (with_reducible refine Blk.drewN ?_ _) | (with_reducible refine RowIn.drewN ?_ _) | (with_reducible refine below_drewN ?_ _) | (with_reducible refine Blk.drew ?_) | (with_reducible refine RowIn.drew ?_) | (with_reducible refine Below.drew ?_) | (with_reducible refine Blk.new' ?_ ?_ <;> first | (with_reducible rfl) | (simp; done)) | (with_reducible refine Blk.alloc ?_ _) | (with_reducible refine RowIn.alloc ?_ _) | (with_reducible refine Below.alloc ?_ ?_ _) | (with_reducible apply Blk.set') | (with_reducible apply Blk.far') | (with_reducible refine RowIn.far' ?_ ?_ _) | (with_reducible refine Below.far' ?_ ?_ _) | rfl | omega | go_size)
                · refine RowIn.mono (lo := w20.heap.size) (hi := w12.heap.size) ?_ (by omega) (by go_size)
                  repeat' (first | (with_reducible assumption) | (with_reducible exact Below.refl _ _) | (with_reducible refine Blk.drewN ?_ _) | (with_reducible refine RowIn.drewN ?_ _) | (with_reducible refine below_drewN ?_ _) | (with_reducible refine Blk.drew ?_) | (with_reducible refine RowIn.drew ?_) | (with_reducible refine Below.drew ?_) | (with_reducible refine Blk.new' ?_ ?_ <;> first | (with_reducible rfl) | (simp; done)) | (with_reducible refine Blk.alloc ?_ _) | (with_reducible refine RowIn.alloc ?_ _) | (with_reducible refine Below.alloc ?_ ?_ _) | (with_reducible apply Blk.set') | (with_reducible apply Blk.far') | (with_reducible refine RowIn.far' ?_ ?_ _) | (with_reducible refine Below.far' ?_ ?_ _) | rfl | omega | go_size)
                · refine RowIn.mono (lo := w20.heap.size) (hi := w12.heap.size) ?_ (by omega) (by go_size)
                  have hro := own12.rowIn
                  repeat' (first | (with_reducible assumption) | (with_reducible exact Below.refl _ _) | (with_reducible refine Blk.drewN ?_ _) | (with_reducible refine RowIn.drewN ?_ _) | (with_reducible refine below_drewN ?_ _) | (with_reducible refine Blk.drew ?_) | (with_reducible refine RowIn.drew ?_) | (with_reducible refine Below.drew ?_) | (with_reducible refine Blk.new' ?_ ?_ <;> first | (with_reducible rfl) | (simp; done)) | (with_reducible refine Blk.alloc ?_ _) | (with_reducible refine RowIn.alloc ?_ _) | (with_reducible refine Below.alloc ?_ ?_ _) | (with_reducible apply Blk.set') | (with_reducible apply Blk.far') | (with_reducible refine RowIn.far' ?_ ?_ _) | (with_reducible refine Below.far' ?_ ?_ _) | rfl | omega | go_size)
            · go_wp2_with fail
              refine (hg1.out _ (by exact RowIn.row (lo := w.heap.size + 1 + 1) (hi := w20.heap.size) (by repeat' (first | (with_reducible assumption) | (with_reducible exact Below.refl _ _) | (with_reducible refine Blk.drewN ?_ _) | (with_reducible refine RowIn.drewN ?_ _) | (with_reducible refine below_drewN ?_ _) | (with_reducible refine Blk.drew ?_) | (with_reducible refine RowIn.drew ?_) | (with_reducible refine Below.drew ?_) | (with_reducible refine Blk.new' ?_ ?_ <;> first | (with_reducible rfl) | (simp; done)) | (with_reducible refine Blk.alloc ?_ _) | (with_reducible refine RowIn.alloc ?_ _) | (with_reducible refine Below.alloc ?_ ?_ _) | (with_reducible apply Blk.set') | (with_reducible apply Blk.far') | (with_reducible refine RowIn.far' ?_ ?_ _) | (with_reducible refine Below.far' ?_ ?_ _) | rfl | omega | go_size)))).mono ?_
              rintro e w10 ⟨rfl, b10⟩
              have own10 := own8.below b10 (Nat.le_refl _)
              have s10 := b10.size
              try simp only [World.size_alloc, World.size_setCell, World.size_drew, size_drewN] at s10
              obtain ⟨zs_10, zr_10, za_10, ry_10, bb_10⟩ : Blk w10 (w.heap.size) 40 [.int .i64 (gk : Int), .int .i64 (p0 : Int), .int .i64 (p1 : Int), .int .u64 (q0 : Int), .int .u64 (q1 : Int), .slice A m c, .int .i64 (((bs.length : Nat)) : Int)] ∧ Blk w10 (w.heap.size + 1) 40 [.int .i64 0, .int .i64 0, .int .i64 0, .int .u64 0, .int .u64 0, .slice none 0 0, .int .i64 0] ∧ Blk w10 (w1.heap.size) 24 [.slice B2 m2 d2, .int .i64 ((y.length : Nat) : Int)] ∧ RowIn .u8 w10 (w.heap.size + 1 + 1) (w20.heap.size) B2 m2 (pack y) ∧ Below w.heap.size w w10 := by
                refine ⟨?_, ?_, ?_, ?_, ?_⟩
                all_goals repeat' (first | (with_reducible assumption) | (with_reducible exact Below.refl _ _) | (with_reducible refine Blk.drewN ?_ _) | (with_reducible refine RowIn.drewN ?_ _) | (with_reducible refine below_drewN ?_ _) | (with_reducible refine Blk.drew ?_) | (with_reducible refine RowIn.drew ?_) | (with_reducible refine Below.drew ?_) | (with_reducible refine Blk.new' ?_ ?_ <;> first | (with_reducible rfl) | (simp; done)) | (with_reducible refine Blk.alloc ?_ _) | (with_reducible refine RowIn.alloc ?_ _) | (with_reducible refine Below.alloc ?_ ?_ _) | (with_reducible apply Blk.set') | (with_reducible apply Blk.far') | (with_reducible refine RowIn.far' ?_ ?_ _) | (with_reducible refine Below.far' ?_ ?_ _) | (with_reducible refine Blk.after ?_ b10) | (with_reducible refine RowIn.belowS ?_ b10) | (with_reducible refine Below.after ?_ b10 ?_) | rfl | omega | go_size)
              clear b10
              have ks_10 := zs_10.cell; have fs_10 := zs_10.frozen; have ls_10 := zs_10.lt
              have kr_10 := zr_10.cell; have fr_10 := zr_10.frozen; have lr_10 := zr_10.lt
              have ka_10 := za_10.cell; have fa_10 := za_10.frozen; have la_10 := za_10.lt
              have hg := feed_stop HG0.out HRR.out (by omega)
              go_wp2
              refine bodyPost_ret (v := .tuple #[.agg #[.int .i64 0, .int .i64 0, .int .i64 0, .int .u64 0, .int .u64 0, .slice none 0 0, .int .i64 0], .slice none 0 0, .int .i64 12]) (by simp [results, Tryd.results54, go_sem, kr_10, lr_10, fr_10]) rfl ?_
              rw [← HG.out, hg]
              refine gfeed_err (er := 12) ⟨rfl, ?_⟩
              repeat' (first | (with_reducible assumption) | (with_reducible exact Below.refl _ _) | (with_reducible refine Blk.drewN ?_ _) | (with_reducible refine RowIn.drewN ?_ _) | (with_reducible refine below_drewN ?_ _) | (with_reducible refine Blk.drew ?_) | (with_reducible refine RowIn.drew ?_) | (with_reducible refine Below.drew ?_) | (with_reducible refine Blk.new' ?_ ?_ <;> first | (with_reducible rfl) | (simp; done)) | (with_reducible refine Blk.alloc ?_ _) | (with_reducible refine RowIn.alloc ?_ _) | (with_reducible refine Below.alloc ?_ ?_ _) | (with_reducible apply Blk.set') | (with_reducible apply Blk.far') | (with_reducible refine RowIn.far' ?_ ?_ _) | (with_reducible refine Below.far' ?_ ?_ _) | rfl | omega | go_size)
          | ok v q =>
            have hv32 := readD_lt HPO.out hrd
            have hkl := (readD_len HPO.out hrd).2.2
            rw [List.length_drop] at hkl
            have hg0 := HGG.out
            rw [HKR.out] at hg0
            have hg := feed_step hg0 hrd
            obtain ⟨z, hz⟩ : ∃ z, z = a + q := ⟨_, rfl⟩
            rw [← hz] at hg
            have HG2 := Lib.hid hg
            have HRD : Hid (gdR y a ⟨p0, p1, q0, q1⟩ = ((v : Int), (z : Int), 0)) := Lib.hid (by unfold gdR; rw [hrd]; dsimp only; rw [hz])
            have hzl : z ≤ y.length := by omega
            have hri2 : ((gk : Int) - 1) = (r : Int) := by have := HKR.out; omega
            have hg1 := (fun W (hr : Row .u8 W B2 m2 (pack y)) => rdgot_ret B2 m2 d2 y a p0 p1 q0 q1 W hr hyc (by omega) (by omega) HPO.out.1 HPO.out.2.1)
            rw [HRD.out] at hg1
            replace hg1 := Lib.hid hg1
            clear hg hg0 hrd HGG hz
            go_wp2_with fail
            refine (hg1.out _ (by exact RowIn.row (lo := w.heap.size + 1 + 1) (hi := w20.heap.size) (by repeat' (first | (with_reducible assumption) | (with_reducible exact Below.refl _ _) | (with_reducible refine Blk.drewN ?_ _) | (with_reducible refine RowIn.drewN ?_ _) | (with_reducible refine below_drewN ?_ _) | (with_reducible refine Blk.drew ?_) | (with_reducible refine RowIn.drew ?_) | (with_reducible refine Below.drew ?_) | (with_reducible refine Blk.new' ?_ ?_ <;> first | (with_reducible rfl) | (simp; done)) | (with_reducible refine Blk.alloc ?_ _) | (with_reducible refine RowIn.alloc ?_ _) | (with_reducible refine Below.alloc ?_ ?_ _) | (with_reducible apply Blk.set') | (with_reducible apply Blk.far') | (with_reducible refine RowIn.far' ?_ ?_ _) | (with_reducible refine Below.far' ?_ ?_ _) | rfl | omega | go_size)))).mono ?_
            rintro e w10 ⟨rfl, b10⟩
            have own10 := own8.below b10 (Nat.le_refl _)
            have s10 := b10.size
            try simp only [World.size_alloc, World.size_setCell, World.size_drew, size_drewN] at s10
            obtain ⟨zs_10, zr_10, za_10, ry_10, bb_10⟩ : Blk w10 (w.heap.size) 40 [.int .i64 (gk : Int), .int .i64 (p0 : Int), .int .i64 (p1 : Int), .int .u64 (q0 : Int), .int .u64 (q1 : Int), .slice A m c, .int .i64 (((bs.length : Nat)) : Int)] ∧ Blk w10 (w.heap.size + 1) 40 [.int .i64 0, .int .i64 0, .int .i64 0, .int .u64 0, .int .u64 0, .slice none 0 0, .int .i64 0] ∧ Blk w10 (w1.heap.size) 24 [.slice B2 m2 d2, .int .i64 ((y.length : Nat) : Int)] ∧ RowIn .u8 w10 (w.heap.size + 1 + 1) (w20.heap.size) B2 m2 (pack y) ∧ Below w.heap.size w w10 := by
              refine ⟨?_, ?_, ?_, ?_, ?_⟩
              all_goals repeat' (first | (with_reducible assumption) | (with_reducible exact Below.refl _ _) | (with_reducible refine Blk.drewN ?_ _) | (with_reducible refine RowIn.drewN ?_ _) | (with_reducible refine below_drewN ?_ _) | (with_reducible refine Blk.drew ?_) | (with_reducible refine RowIn.drew ?_) | (with_reducible refine Below.drew ?_) | (with_reducible refine Blk.new' ?_ ?_ <;> first | (with_reducible rfl) | (simp; done)) | (with_reducible refine Blk.alloc ?_ _) | (with_reducible refine RowIn.alloc ?_ _) | (with_reducible refine Below.alloc ?_ ?_ _) | (with_reducible apply Blk.set') | (with_reducible apply Blk.far') | (with_reducible refine RowIn.far' ?_ ?_ _) | (with_reducible refine Below.far' ?_ ?_ _) | (with_reducible refine Blk.after ?_ b10) | (with_reducible refine RowIn.belowS ?_ b10) | (with_reducible refine Below.after ?_ b10 ?_) | rfl | omega | go_size)
            clear b10
            have ks_10 := zs_10.cell; have fs_10 := zs_10.frozen; have ls_10 := zs_10.lt
            have kr_10 := zr_10.cell; have fr_10 := zr_10.frozen; have lr_10 := zr_10.lt
            have ka_10 := za_10.cell; have fa_10 := za_10.frozen; have la_10 := za_10.lt
            have s10w : w20.heap.size ≤ w10.heap.size := by omega
            go_wp2_with (at_builtin; refine wpList_app _ u32E rfl _ _ rfl w20.heap.size _ _ _ _ rfl (by exact own10.alloc _) _ _ _ [(v : Int)] rfl (by exact row_one' (by simp)) (by omega) (by simp; omega) ?_)
            intro B11 d11 w11 own11 hg11 hat11
            have b11 : Below w20.heap.size w10 w11 := ((Below.refl _ _).alloc s10w _).grown hg11 (by simp; omega) (fun g e => (own10.block g e).1)
            have zs_11 := zs_10.below b11 (by omega)
            have zr_11 := zr_10.below b11 (by omega)
            have za_11 := za_10.below b11 (by omega)
            have ry_11 := ry_10.below b11 (Nat.le_refl _)
            have bb_11 : Below w.heap.size w w11 := bb_10.trans (b11.mono (by omega))
            have HZ2 : Hid (zs ++ [(v : Int)] = ints (us ++ [v])) := Lib.hid (by rw [ints_next, HZ.out])
            have s11 := bb_11.size
            have s11w : w20.heap.size ≤ w11.heap.size := by have := own11.mono (Nat.le_refl _); have h := hg11.size; simp at h; omega
            have ks_11 := zs_11.cell; have fs_11 := zs_11.frozen; have ls_11 := zs_11.lt
            have kr_11 := zr_11.cell; have fr_11 := zr_11.frozen; have lr_11 := zr_11.lt
            have ka_11 := za_11.cell; have fa_11 := za_11.frozen; have la_11 := za_11.lt
            clear hat11 hg11 own10 own8 zs_10 zr_10 za_10 ry_10 bb_10 ks_10 fs_10 ls_10 kr_10 fr_10 lr_10 ka_10 fa_10 la_10
            go_wp2_with fail
            refine (rdlearnt_ok p0 p1 q0 q1 v _ HPO.out hv32).mono ?_
            rintro e w13 ⟨u0, u1, v0, v1, rfl, HU, b13⟩
            have own13 := own11.below b13 (Nat.le_refl _)
            have zs_13 := zs_11.after b13
            have zr_13 := zr_11.after b13
            have za_13 := za_11.after b13
            have ry_13 := ry_11.belowS b13
            have bb_13 := Below.after bb_11 b13 s11
            have s13 := b13.size
            have ks_13 := zs_13.cell; have fs_13 := zs_13.frozen; have ls_13 := zs_13.lt
            have kr_13 := zr_13.cell; have fr_13 := zr_13.frozen; have lr_13 := zr_13.lt
            have ka_13 := za_13.cell; have fa_13 := za_13.frozen; have la_13 := za_13.lt
            have HPO2 : Hid (Dual.Ok ⟨u0, u1, v0, v1⟩) := Lib.hid (by rw [HU.out]; exact learn_ok HPO.out hv32)
            rw [← HU.out] at HG2
            clear b11 b13 own11 zs_11 ks_11 fs_11 ls_11 zr_11 kr_11 fr_11 lr_11 za_11 ka_11 fa_11 la_11 ry_11 bb_11
            go_wp2
            go_roundg r
            case measure => have := HKR.out; omega
            case rel =>
              have hneS : blockOf B11 ≠ some (w.heap.size) := fun h => by have := (own13.block _ h).1; omega
              refine ⟨z, u0, u1, v0, v1, j + 1, d11, B11, us ++ [v], zs ++ [(v : Int)], rfl, rfl, hzl, by simp; have := HKR.out; omega, by simp; have := HKR.out; omega, by simp; omega, by simp; omega, HPO2, HG2, HZ2, ?_, ?_, ?_, ?_, ?_, ?_, by go_size⟩
              · repeat' (first | (with_reducible exact own13) | (with_reducible refine Own.far' ?_ hneS _) | (with_reducible refine Own.drew ?_))
              · repeat' (first | (with_reducible assumption) | (with_reducible exact Below.refl _ _) | (with_reducible refine Blk.drewN ?_ _) | (with_reducible refine RowIn.drewN ?_ _) | (with_reducible refine below_drewN ?_ _) | (with_reducible refine Blk.drew ?_) | (with_reducible refine RowIn.drew ?_) | (with_reducible refine Below.drew ?_) | (with_reducible refine Blk.new' ?_ ?_ <;> first | (with_reducible rfl) | (simp; done)) | (with_reducible refine Blk.alloc ?_ _) | (with_reducible refine RowIn.alloc ?_ _) | (with_reducible refine Below.alloc ?_ ?_ _) | (with_reducible apply Blk.set') | (with_reducible apply Blk.far') | (with_reducible refine RowIn.far' ?_ ?_ _) | (with_reducible refine Below.far' ?_ ?_ _) | rfl | omega | go_size)
              · repeat' (first | (with_reducible assumption) | (with_reducible exact Below.refl _ _) | (with_reducible refine Blk.drewN ?_ _) | (with_reducible refine RowIn.drewN ?_ _) | (with_reducible refine below_drewN ?_ _) | (with_reducible refine Blk.drew ?_) | (with_reducible refine RowIn.drew ?_) | (with_reducible refine Below.drew ?_) | (with_reducible refine Blk.new' ?_ ?_ <;> first | (with_reducible rfl) | (simp; done)) | (with_reducible refine Blk.alloc ?_ _) | (with_reducible refine RowIn.alloc ?_ _) | (with_reducible refine Below.alloc ?_ ?_ _) | (with_reducible apply Blk.set') | (with_reducible apply Blk.far') | (with_reducible refine RowIn.far' ?_ ?_ _) | (with_reducible refine Below.far' ?_ ?_ _) | rfl | omega | go_size)
              · repeat' (first | (with_reducible assumption) | (with_reducible exact Below.refl _ _) | (with_reducible refine Blk.drewN ?_ _) | (with_reducible refine RowIn.drewN ?_ _) | (with_reducible refine below_drewN ?_ _) | (with_reducible refine Blk.drew ?_) | (with_reducible refine RowIn.drew ?_) | (with_reducible refine Below.drew ?_) | (with_reducible refine Blk.new' ?_ ?_ <;> first | (with_reducible rfl) | (simp; done)) | (with_reducible refine Blk.alloc ?_ _) | (with_reducible refine RowIn.alloc ?_ _) | (with_reducible refine Below.alloc ?_ ?_ _) | (with_reducible apply Blk.set') | (with_reducible apply Blk.far') | (with_reducible refine RowIn.far' ?_ ?_ _) | (with_reducible refine Below.far' ?_ ?_ _) | rfl | omega | go_size)
              · repeat' (first | (with_reducible assumption) | (with_reducible exact Below.refl _ _) | (with_reducible refine Blk.drewN ?_ _) | (with_reducible refine RowIn.drewN ?_ _) | (with_reducible refine below_drewN ?_ _) | (with_reducible refine Blk.drew ?_) | (with_reducible refine RowIn.drew ?_) | (with_reducible refine Below.drew ?_) | (with_reducible refine Blk.new' ?_ ?_ <;> first | (with_reducible rfl) | (simp; done)) | (with_reducible refine Blk.alloc ?_ _) | (with_reducible refine RowIn.alloc ?_ _) | (with_reducible refine Below.alloc ?_ ?_ _) | (with_reducible apply Blk.set') | (with_reducible apply Blk.far') | (with_reducible refine RowIn.far' ?_ ?_ _) | (with_reducible refine Below.far' ?_ ?_ _) | rfl | omega | go_size)
              · repeat' (first | (with_reducible assumption) | (with_reducible exact Below.refl _ _) | (with_reducible refine Blk.drewN ?_ _) | (with_reducible refine RowIn.drewN ?_ _) | (with_reducible refine below_drewN ?_ _) | (with_reducible refine Blk.drew ?_) | (with_reducible refine RowIn.drew ?_) | (with_reducible refine Below.drew ?_) | (with_reducible refine Blk.new' ?_ ?_ <;> first | (with_reducible rfl) | (simp; done)) | (with_reducible refine Blk.alloc ?_ _) | (with_reducible refine RowIn.alloc ?_ _) | (with_reducible refine Below.alloc ?_ ?_ _) | (with_reducible apply Blk.set') | (with_reducible apply Blk.far') | (with_reducible refine RowIn.far' ?_ ?_ _) | (with_reducible refine Below.far' ?_ ?_ _) | rfl | omega | go_size)
        · obtain rfl : gk = 0 := by omega
          go_wp2_with fail
          have ly := y.length
          refine (rbetween_any B2 m2 d2 y a y.length _ (by exact RowIn.row (lo := w.heap.size + 1 + 1) (hi := w20.heap.size) (by repeat' (first | (with_reducible assumption) | (with_reducible exact Below.refl _ _) | (with_reducible refine Blk.drewN ?_ _) | (with_reducible refine RowIn.drewN ?_ _) | (with_reducible refine below_drewN ?_ _) | (with_reducible refine Blk.drew ?_) | (with_reducible refine RowIn.drew ?_) | (with_reducible refine Below.drew ?_) | (with_reducible refine Blk.new' ?_ ?_ <;> first | (with_reducible rfl) | (simp; done)) | (with_reducible refine Blk.alloc ?_ _) | (with_reducible refine RowIn.alloc ?_ _) | (with_reducible refine Below.alloc ?_ ?_ _) | (with_reducible apply Blk.set') | (with_reducible apply Blk.far') | (with_reducible refine RowIn.far' ?_ ?_ _) | (with_reducible refine Below.far' ?_ ?_ _) | rfl | omega | go_size))) hyc (by omega) haL (Nat.le_refl _)).mono ?_
          rintro e w12 ⟨Ap, mp, cp, xp, rfl, hcp, rp, HXp, b12⟩
          have HPD : Hid (xp = y.drop a) := Lib.hid (by rw [HXp.out, List.take_of_length_le (by rw [List.length_drop]; omega)])
          have Lp : xp.length ≤ y.length - a ∧ y.length - a ≤ xp.length := by rw [HPD.out, List.length_drop]; omega
          obtain ⟨Lp1, Lp2⟩ := Lp
          clear HXp
          have own12 := (own8).below b12 (Nat.le_refl _)
          have hc12 := own12.rowC.2
          have hneS : blockOf Bo ≠ some (w.heap.size) := fun h => by have := (own12.block _ h).1; omega
          have hneR : blockOf Bo ≠ some (w.heap.size + 1) := fun h => by have := (own12.block _ h).1; omega
          have s12 := b12.size
          try simp only [World.size_alloc, World.size_setCell, World.size_drew, size_drewN] at s12
          obtain ⟨zs_12, zr_12, za_12, ry_12, bb_12⟩ : Blk w12 (w.heap.size) 40 [.int .i64 (0 : Int), .int .i64 (p0 : Int), .int .i64 (p1 : Int), .int .u64 (q0 : Int), .int .u64 (q1 : Int), .slice A m c, .int .i64 (((bs.length : Nat)) : Int)] ∧ Blk w12 (w.heap.size + 1) 40 [.int .i64 0, .int .i64 0, .int .i64 0, .int .u64 0, .int .u64 0, .slice none 0 0, .int .i64 0] ∧ Blk w12 (w1.heap.size) 24 [.slice B2 m2 d2, .int .i64 ((y.length : Nat) : Int)] ∧ RowIn .u8 w12 (w.heap.size + 1 + 1) (w20.heap.size) B2 m2 (pack y) ∧ Below w.heap.size w w12 := by
            refine ⟨?_, ?_, ?_, ?_, ?_⟩
            all_goals repeat' (first | (with_reducible assumption) | (with_reducible exact Below.refl _ _) | (with_reducible refine Blk.drewN ?_ _) | (with_reducible refine RowIn.drewN ?_ _) | (with_reducible refine below_drewN ?_ _) | (with_reducible refine Blk.drew ?_) | (with_reducible refine RowIn.drew ?_) | (with_reducible refine Below.drew ?_) | (with_reducible refine Blk.new' ?_ ?_ <;> first | (with_reducible rfl) | (simp; done)) | (with_reducible refine Blk.alloc ?_ _) | (with_reducible refine RowIn.alloc ?_ _) | (with_reducible refine Below.alloc ?_ ?_ _) | (with_reducible apply Blk.set') | (with_reducible apply Blk.far') | (with_reducible refine RowIn.far' ?_ ?_ _) | (with_reducible refine Below.far' ?_ ?_ _) | (with_reducible refine Blk.after ?_ b12) | (with_reducible refine RowIn.belowS ?_ b12) | (with_reducible refine Below.after ?_ b12 ?_) | rfl | omega | go_size)
          clear b12
          have ks_12 := zs_12.cell; have fs_12 := zs_12.frozen; have ls_12 := zs_12.lt
          have kr_12 := zr_12.cell; have fr_12 := zr_12.frozen; have lr_12 := zr_12.lt
          have ka_12 := za_12.cell; have fa_12 := za_12.frozen; have la_12 := za_12.lt
          replace rp := rp.mono (lo' := w20.heap.size) (by omega) (Nat.le_refl _)
          by_cases h8 : 8 ≤ y.length - a
          · have hg := feed_more HGG.out h8
            have e2 : decide (8 ≤ ((xp.length : Nat) : Int)) = true := decide_eq_true (by omega)
            go_wp2
            refine bodyPost_ret (v := .tuple #[.agg #[.int .i64 0, .int .i64 0, .int .i64 0, .int .u64 0, .int .u64 0, .slice none 0 0, .int .i64 0], .slice none 0 0, .int .i64 38]) (by simp [results, Tryd.results54, go_sem, kr_12, lr_12, fr_12]) rfl ?_
            rw [← HG.out, hg]
            refine gfeed_err (er := 38) ⟨rfl, ?_⟩
            repeat' (first | (with_reducible assumption) | (with_reducible exact Below.refl _ _) | (with_reducible refine Blk.drewN ?_ _) | (with_reducible refine RowIn.drewN ?_ _) | (with_reducible refine below_drewN ?_ _) | (with_reducible refine Blk.drew ?_) | (with_reducible refine RowIn.drew ?_) | (with_reducible refine Below.drew ?_) | (with_reducible refine Blk.new' ?_ ?_ <;> first | (with_reducible rfl) | (simp; done)) | (with_reducible refine Blk.alloc ?_ _) | (with_reducible refine RowIn.alloc ?_ _) | (with_reducible refine Below.alloc ?_ ?_ _) | (with_reducible apply Blk.set') | (with_reducible apply Blk.far') | (with_reducible refine RowIn.far' ?_ ?_ _) | (with_reducible refine Below.far' ?_ ?_ _) | rfl | omega | go_size)
          · have hg := feed_done HGG.out (by omega)
            have e2 : decide (8 ≤ ((xp.length : Nat) : Int)) = false := decide_eq_false (by omega)
            go_wp2
            all_goals try (go_region; all_goals go_wp2)
            all_goals
              refine bodyPost_ret (v := .tuple #[.agg #[.int .i64 (0 : Int), .int .i64 (p0 : Int), .int .i64 (p1 : Int), .int .u64 (q0 : Int), .int .u64 (q1 : Int), .slice Ap mp cp, .int .i64 (((xp.length : Nat)) : Int)], .slice Bo j dd, .int .i64 0]) (by simp [results, Tryd.results54, go_sem, ks_12, ls_12, fs_12, kr_12, lr_12, fr_12]) rfl ?_
              rw [← HG.out, hg]
              refine ⟨?_, p0, p1, q0, q1, mp, cp, j, dd, Ap, Bo, xp, zs, rfl, Lib.hid rfl, hcp, HPD, ?_, hc12, HZ, ?_⟩
              · repeat' (first | (with_reducible assumption) | (with_reducible exact Below.refl _ _) | (with_reducible refine Blk.drewN ?_ _) | (with_reducible refine RowIn.drewN ?_ _) | (with_reducible refine below_drewN ?_ _) | (with_reducible refine Blk.drew ?_) | (with_reducible refine RowIn.drew ?_) | (with_reducible refine Below.drew ?_) | (with_reducible refine Blk.new' ?_ ?_ <;> first | (with_reducible rfl) | (simp; done)) | (with_reducible refine Blk.alloc ?_ _) | (with_reducible refine RowIn.alloc ?_ _) | (with_reducible refine Below.alloc ?_ ?_ _) | (with_reducible apply Blk.set') | (with_reducible apply Blk.far') | (with_reducible refine RowIn.far' ?_ ?_ _) | (with_reducible refine Below.far' ?_ ?_ _) | rfl | omega | go_size)
              · refine RowIn.mono (lo := w20.heap.size) (hi := w12.heap.size) ?_ (by omega) (by go_size)
                repeat' (first | (with_reducible assumption) | (with_reducible exact Below.refl _ _) | (with_reducible refine Blk.drewN ?_ _) | (with_reducible refine RowIn.drewN ?_ _) | (with_reducible refine below_drewN ?_ _) | (with_reducible refine Blk.drew ?_) | (with_reducible refine RowIn.drew ?_) | (with_reducible refine Below.drew ?_) | (with_reducible refine Blk.new' ?_ ?_ <;> first | (with_reducible rfl) | (simp; done)) | (with_reducible refine Blk.alloc ?_ _) | (with_reducible refine RowIn.alloc ?_ _) | (with_reducible refine Below.alloc ?_ ?_ _) | (with_reducible apply Blk.set') | (with_reducible apply Blk.far') | (with_reducible refine RowIn.far' ?_ ?_ _) | (with_reducible refine Below.far' ?_ ?_ _) | rfl | omega | go_size)
              · refine RowIn.mono (lo := w20.heap.size) (hi := w12.heap.size) ?_ (by omega) (by go_size)
                have hro := own12.rowIn
                repeat' (first | (with_reducible assumption) | (with_reducible exact Below.refl _ _) | (with_reducible refine Blk.drewN ?_ _) | (with_reducible refine RowIn.drewN ?_ _) | (with_reducible refine below_drewN ?_ _) | (with_reducible refine Blk.drew ?_) | (with_reducible refine RowIn.drew ?_) | (with_reducible refine Below.drew ?_) | (with_reducible refine Blk.new' ?_ ?_ <;> first | (with_reducible rfl) | (simp; done)) | (with_reducible refine Blk.alloc ?_ _) | (with_reducible refine RowIn.alloc ?_ _) | (with_reducible refine Below.alloc ?_ ?_ _) | (with_reducible apply Blk.set') | (with_reducible apply Blk.far') | (with_reducible refine RowIn.far' ?_ ?_ _) | (with_reducible refine Below.far' ?_ ?_ _) | rfl | omega | go_size)


end Go.Proofs.YtppilidcjlnmoaaDoor
/-
  Contracts of the reference of chapter 10: Feed, Same, Great.
-/
namespace Go.Proofs.YtppilidcjlnmoaaDoor
open Go.RowKit Cad Cad.Bit Cad.Code
set_option linter.unusedVariables false
set_option linter.unusedSimpArgs false


set_option maxRecDepth 100000 in
set_option maxHeartbeats 1000000 in
theorem rrfeed_none (L p0 p1 q0 q1 N : Int) (m c : Nat) (A : Option Addr) (xs : List Int) (B : Option Addr) (nb cb : Nat) (w : World) (hL : -9223372036854775808 ≤ L ∧ L ≤ 9223372036854775807) (h2 : 0 ≤ q0) (h3 : 0 ≤ q1) (ha : Row .u8 w A m xs) (hb : Within 0 255 xs) (hc : m ≤ c ∧ c ≤ 9223372036854775807) (hs : ¬ RS L p0 p1 q0 q1 xs N) :
    Calls Tryd.prog 25 #[.agg #[.int .i64 (L : Int), .int .i64 (p0 : Int), .int .i64 (p1 : Int), .int .u64 (q0 : Int), .int .u64 (q1 : Int), .slice A m c, .int .i64 (N : Int)], .slice B nb cb] w (RetF w (.err 8)) := by
  have hri := ha.rowIn
  have HN := Lib.hid hs
  clear hs
  go_enter Tryd.func25, Tryd.ntmps25
  go_wp2_with fail
  refine (rrc_any L p0 p1 q0 q1 N m c A xs _ hL h2 h3 (by exact RowIn.row (lo := 0) (hi := w.heap.size) (by repeat' (first | (with_reducible assumption) | (with_reducible exact Below.refl _ _) | (with_reducible refine Blk.drewN ?_ _) | (with_reducible refine RowIn.drewN ?_ _) | (with_reducible refine below_drewN ?_ _) | (with_reducible refine Blk.drew ?_) | (with_reducible refine RowIn.drew ?_) | (with_reducible refine Below.drew ?_) | (with_reducible refine Blk.new' ?_ ?_ <;> first | (with_reducible rfl) | (simp; done)) | (with_reducible refine Blk.alloc ?_ _) | (with_reducible refine RowIn.alloc ?_ _) | (with_reducible refine Below.alloc ?_ ?_ _) | (with_reducible apply Blk.set') | (with_reducible apply Blk.far') | (with_reducible refine RowIn.far' ?_ ?_ _) | (with_reducible refine Below.far' ?_ ?_ _) | rfl | omega | go_size))) hb hc HN.out).mono ?_
  rintro e w1 ⟨rfl, b1⟩
  have s1 := b1.size
  try simp only [World.size_alloc, World.size_setCell, World.size_drew, size_drewN] at s1
  obtain ⟨zs_1, zr_1, ra_1, bb_1⟩ : Blk w1 (w.heap.size) 40 [.int .i64 (L : Int), .int .i64 (p0 : Int), .int .i64 (p1 : Int), .int .u64 (q0 : Int), .int .u64 (q1 : Int), .slice A m c, .int .i64 (N : Int)] ∧ Blk w1 (w.heap.size + 1) 40 [.int .i64 0, .int .i64 0, .int .i64 0, .int .u64 0, .int .u64 0, .slice none 0 0, .int .i64 0] ∧ RowIn .u8 w1 (0) (w.heap.size) A m xs ∧ Below w.heap.size w w1 := by
    refine ⟨?_, ?_, ?_, ?_⟩
    all_goals repeat' (first | (with_reducible assumption) | (with_reducible exact Below.refl _ _) | (with_reducible refine Blk.drewN ?_ _) | (with_reducible refine RowIn.drewN ?_ _) | (with_reducible refine below_drewN ?_ _) | (with_reducible refine Blk.drew ?_) | (with_reducible refine RowIn.drew ?_) | (with_reducible refine Below.drew ?_) | (with_reducible refine Blk.new' ?_ ?_ <;> first | (with_reducible rfl) | (simp; done)) | (with_reducible refine Blk.alloc ?_ _) | (with_reducible refine RowIn.alloc ?_ _) | (with_reducible refine Below.alloc ?_ ?_ _) | (with_reducible apply Blk.set') | (with_reducible apply Blk.far') | (with_reducible refine RowIn.far' ?_ ?_ _) | (with_reducible refine Below.far' ?_ ?_ _) | (with_reducible refine Blk.after ?_ b1) | (with_reducible refine RowIn.belowS ?_ b1) | (with_reducible refine Below.after ?_ b1 ?_) | rfl | omega | go_size)
  clear b1
  have ks_1 := zs_1.cell; have fs_1 := zs_1.frozen; have ls_1 := zs_1.lt
  have kr_1 := zr_1.cell; have fr_1 := zr_1.frozen; have lr_1 := zr_1.lt
  go_wp2
  refine bodyPost_ret (v := .tuple #[.agg #[.int .i64 0, .int .i64 0, .int .i64 0, .int .u64 0, .int .u64 0, .slice none 0 0, .int .i64 0], .slice none 0 0, .int .i64 8]) (by simp [results, Tryd.results25, go_sem, kr_1, lr_1, fr_1]) rfl ?_
  refine gfeed_err (er := 8) ⟨rfl, ?_⟩
  repeat' (first | (with_reducible assumption) | (with_reducible exact Below.refl _ _) | (with_reducible refine Blk.drewN ?_ _) | (with_reducible refine RowIn.drewN ?_ _) | (with_reducible refine below_drewN ?_ _) | (with_reducible refine Blk.drew ?_) | (with_reducible refine RowIn.drew ?_) | (with_reducible refine Below.drew ?_) | (with_reducible refine Blk.new' ?_ ?_ <;> first | (with_reducible rfl) | (simp; done)) | (with_reducible refine Blk.alloc ?_ _) | (with_reducible refine RowIn.alloc ?_ _) | (with_reducible refine Below.alloc ?_ ?_ _) | (with_reducible apply Blk.set') | (with_reducible apply Blk.far') | (with_reducible refine RowIn.far' ?_ ?_ _) | (with_reducible refine Below.far' ?_ ?_ _) | rfl | omega | go_size)


set_option maxRecDepth 100000 in
set_option maxHeartbeats 1000000 in
theorem rrfeed_many (n x0 x1 y0 y1 m c : Nat) (A : Option Addr) (bs : List Bool) (D : Option Addr) (nb cb : Nat) (xs : List Int) (w : World) (hn : n ≤ 4000) (hf : FOk n ⟨x0, x1, y0, y1⟩ bs) (ha : Row .u8 w A m (pack bs)) (hc : m ≤ c ∧ c ≤ 9223372036854775807) (hd : Row .u8 w D nb xs) (hdc : nb ≤ cb ∧ cb ≤ 9223372036854775807) (hx : Within 0 255 xs) (hb : 41000 < nb) :
    Calls Tryd.prog 25 #[.agg #[.int .i64 (n : Int), .int .i64 (x0 : Int), .int .i64 (x1 : Int), .int .u64 (y0 : Int), .int .u64 (y1 : Int), .slice A m c, .int .i64 (((bs.length : Nat)) : Int)], .slice D nb cb] w (RetF w (.err 4)) := by
  have hri := ha.rowIn
  have hdi := hd.rowIn
  have t1 : decide ((41000 : Int) < (nb : Int)) = true := decide_eq_true (by omega)
  have hbl := hf.short
  have HF := Lib.hid hf
  clear hf
  go_enter Tryd.func25, Tryd.ntmps25
  go_wp2_with fail
  refine (rrc_val n x0 x1 y0 y1 m c A bs 0 _ hn HF.out.1 (by exact RowIn.row (lo := 0) (hi := w.heap.size) (by repeat' (first | (with_reducible assumption) | (with_reducible exact Below.refl _ _) | (with_reducible refine Blk.drewN ?_ _) | (with_reducible refine RowIn.drewN ?_ _) | (with_reducible refine below_drewN ?_ _) | (with_reducible refine Blk.drew ?_) | (with_reducible refine RowIn.drew ?_) | (with_reducible refine Below.drew ?_) | (with_reducible refine Blk.new' ?_ ?_ <;> first | (with_reducible rfl) | (simp; done)) | (with_reducible refine Blk.alloc ?_ _) | (with_reducible refine RowIn.alloc ?_ _) | (with_reducible refine Below.alloc ?_ ?_ _) | (with_reducible apply Blk.set') | (with_reducible apply Blk.far') | (with_reducible refine RowIn.far' ?_ ?_ _) | (with_reducible refine Below.far' ?_ ?_ _) | rfl | omega | go_size))) hc (by omega) (Or.inl ⟨rfl, HF.out⟩)).mono ?_
  rintro e w1 ⟨rfl, b1⟩
  have s1 := b1.size
  try simp only [World.size_alloc, World.size_setCell, World.size_drew, size_drewN] at s1
  obtain ⟨zs_1, zr_1, ra_1, rd_1, bb_1⟩ : Blk w1 (w.heap.size) 40 [.int .i64 (n : Int), .int .i64 (x0 : Int), .int .i64 (x1 : Int), .int .u64 (y0 : Int), .int .u64 (y1 : Int), .slice A m c, .int .i64 (((bs.length : Nat)) : Int)] ∧ Blk w1 (w.heap.size + 1) 40 [.int .i64 0, .int .i64 0, .int .i64 0, .int .u64 0, .int .u64 0, .slice none 0 0, .int .i64 0] ∧ RowIn .u8 w1 (0) (w.heap.size) A m (pack bs) ∧ RowIn .u8 w1 (0) (w.heap.size) D nb xs ∧ Below w.heap.size w w1 := by
    refine ⟨?_, ?_, ?_, ?_, ?_⟩
    all_goals repeat' (first | (with_reducible assumption) | (with_reducible exact Below.refl _ _) | (with_reducible refine Blk.drewN ?_ _) | (with_reducible refine RowIn.drewN ?_ _) | (with_reducible refine below_drewN ?_ _) | (with_reducible refine Blk.drew ?_) | (with_reducible refine RowIn.drew ?_) | (with_reducible refine Below.drew ?_) | (with_reducible refine Blk.new' ?_ ?_ <;> first | (with_reducible rfl) | (simp; done)) | (with_reducible refine Blk.alloc ?_ _) | (with_reducible refine RowIn.alloc ?_ _) | (with_reducible refine Below.alloc ?_ ?_ _) | (with_reducible apply Blk.set') | (with_reducible apply Blk.far') | (with_reducible refine RowIn.far' ?_ ?_ _) | (with_reducible refine Below.far' ?_ ?_ _) | (with_reducible refine Blk.after ?_ b1) | (with_reducible refine RowIn.belowS ?_ b1) | (with_reducible refine Below.after ?_ b1 ?_) | rfl | omega | go_size)
  clear b1
  have ks_1 := zs_1.cell; have fs_1 := zs_1.frozen; have ls_1 := zs_1.lt
  have kr_1 := zr_1.cell; have fr_1 := zr_1.frozen; have lr_1 := zr_1.lt
  go_wp2
  refine bodyPost_ret (v := .tuple #[.agg #[.int .i64 0, .int .i64 0, .int .i64 0, .int .u64 0, .int .u64 0, .slice none 0 0, .int .i64 0], .slice none 0 0, .int .i64 4]) (by simp [results, Tryd.results25, go_sem, kr_1, lr_1, fr_1]) rfl ?_
  refine gfeed_err (er := 4) ⟨rfl, ?_⟩
  repeat' (first | (with_reducible assumption) | (with_reducible exact Below.refl _ _) | (with_reducible refine Blk.drewN ?_ _) | (with_reducible refine RowIn.drewN ?_ _) | (with_reducible refine below_drewN ?_ _) | (with_reducible refine Blk.drew ?_) | (with_reducible refine RowIn.drew ?_) | (with_reducible refine Below.drew ?_) | (with_reducible refine Blk.new' ?_ ?_ <;> first | (with_reducible rfl) | (simp; done)) | (with_reducible refine Blk.alloc ?_ _) | (with_reducible refine RowIn.alloc ?_ _) | (with_reducible refine Below.alloc ?_ ?_ _) | (with_reducible apply Blk.set') | (with_reducible apply Blk.far') | (with_reducible refine RowIn.far' ?_ ?_ _) | (with_reducible refine Below.far' ?_ ?_ _) | rfl | omega | go_size)


set_option maxRecDepth 100000 in
set_option maxHeartbeats 1000000 in
theorem rrfeed_ok (n x0 x1 y0 y1 m c : Nat) (A : Option Addr) (bs : List Bool) (D : Option Addr) (nb cb : Nat) (xs : List Int) (w : World) (hn : n ≤ 4000) (hf : FOk n ⟨x0, x1, y0, y1⟩ bs) (ha : Row .u8 w A m (pack bs)) (hc : m ≤ c ∧ c ≤ 9223372036854775807) (hd : Row .u8 w D nb xs) (hdc : nb ≤ cb ∧ cb ≤ 9223372036854775807) (hx : Within 0 255 xs) (hb : nb ≤ 1000) :
    Calls Tryd.prog 25 #[.agg #[.int .i64 (n : Int), .int .i64 (x0 : Int), .int .i64 (x1 : Int), .int .u64 (y0 : Int), .int .u64 (y1 : Int), .slice A m c, .int .i64 (((bs.length : Nat)) : Int)], .slice D nb cb] w (RetF w (feed n ⟨x0, x1, y0, y1⟩ (bs ++ unpack xs))) := by
  have hri := ha.rowIn
  have hdi := hd.rowIn
  have t1 : decide ((41000 : Int) < (nb : Int)) = false := decide_eq_false (by omega)
  have hbl := hf.short
  have HF := Lib.hid hf
  clear hf
  go_enter Tryd.func25, Tryd.ntmps25
  go_wp2_with fail
  refine (rrc_val n x0 x1 y0 y1 m c A bs 0 _ hn HF.out.1 (by exact RowIn.row (lo := 0) (hi := w.heap.size) (by repeat' (first | (with_reducible assumption) | (with_reducible exact Below.refl _ _) | (with_reducible refine Blk.drewN ?_ _) | (with_reducible refine RowIn.drewN ?_ _) | (with_reducible refine below_drewN ?_ _) | (with_reducible refine Blk.drew ?_) | (with_reducible refine RowIn.drew ?_) | (with_reducible refine Below.drew ?_) | (with_reducible refine Blk.new' ?_ ?_ <;> first | (with_reducible rfl) | (simp; done)) | (with_reducible refine Blk.alloc ?_ _) | (with_reducible refine RowIn.alloc ?_ _) | (with_reducible refine Below.alloc ?_ ?_ _) | (with_reducible apply Blk.set') | (with_reducible apply Blk.far') | (with_reducible refine RowIn.far' ?_ ?_ _) | (with_reducible refine Below.far' ?_ ?_ _) | rfl | omega | go_size))) hc (by omega) (Or.inl ⟨rfl, HF.out⟩)).mono ?_
  rintro e w1 ⟨rfl, b1⟩
  have s1 := b1.size
  try simp only [World.size_alloc, World.size_setCell, World.size_drew, size_drewN] at s1
  obtain ⟨zs_1, zr_1, ra_1, rd_1, bb_1⟩ : Blk w1 (w.heap.size) 40 [.int .i64 (n : Int), .int .i64 (x0 : Int), .int .i64 (x1 : Int), .int .u64 (y0 : Int), .int .u64 (y1 : Int), .slice A m c, .int .i64 (((bs.length : Nat)) : Int)] ∧ Blk w1 (w.heap.size + 1) 40 [.int .i64 0, .int .i64 0, .int .i64 0, .int .u64 0, .int .u64 0, .slice none 0 0, .int .i64 0] ∧ RowIn .u8 w1 (0) (w.heap.size) A m (pack bs) ∧ RowIn .u8 w1 (0) (w.heap.size) D nb xs ∧ Below w.heap.size w w1 := by
    refine ⟨?_, ?_, ?_, ?_, ?_⟩
    all_goals repeat' (first | (with_reducible assumption) | (with_reducible exact Below.refl _ _) | (with_reducible refine Blk.drewN ?_ _) | (with_reducible refine RowIn.drewN ?_ _) | (with_reducible refine below_drewN ?_ _) | (with_reducible refine Blk.drew ?_) | (with_reducible refine RowIn.drew ?_) | (with_reducible refine Below.drew ?_) | (with_reducible refine Blk.new' ?_ ?_ <;> first | (with_reducible rfl) | (simp; done)) | (with_reducible refine Blk.alloc ?_ _) | (with_reducible refine RowIn.alloc ?_ _) | (with_reducible refine Below.alloc ?_ ?_ _) | (with_reducible apply Blk.set') | (with_reducible apply Blk.far') | (with_reducible refine RowIn.far' ?_ ?_ _) | (with_reducible refine Below.far' ?_ ?_ _) | (with_reducible refine Blk.after ?_ b1) | (with_reducible refine RowIn.belowS ?_ b1) | (with_reducible refine Below.after ?_ b1 ?_) | rfl | omega | go_size)
  clear b1
  have ks_1 := zs_1.cell; have fs_1 := zs_1.frozen; have ls_1 := zs_1.lt
  have kr_1 := zr_1.cell; have fr_1 := zr_1.frozen; have lr_1 := zr_1.lt
  go_wp2_with fail
  refine (rfed_ok n x0 x1 y0 y1 m c A bs D nb cb xs _ hn HF.out (by exact RowIn.row (lo := 0) (hi := w.heap.size) (by repeat' (first | (with_reducible assumption) | (with_reducible exact Below.refl _ _) | (with_reducible refine Blk.drewN ?_ _) | (with_reducible refine RowIn.drewN ?_ _) | (with_reducible refine below_drewN ?_ _) | (with_reducible refine Blk.drew ?_) | (with_reducible refine RowIn.drew ?_) | (with_reducible refine Below.drew ?_) | (with_reducible refine Blk.new' ?_ ?_ <;> first | (with_reducible rfl) | (simp; done)) | (with_reducible refine Blk.alloc ?_ _) | (with_reducible refine RowIn.alloc ?_ _) | (with_reducible refine Below.alloc ?_ ?_ _) | (with_reducible apply Blk.set') | (with_reducible apply Blk.far') | (with_reducible refine RowIn.far' ?_ ?_ _) | (with_reducible refine Below.far' ?_ ?_ _) | rfl | omega | go_size))) hc (by exact RowIn.row (lo := 0) (hi := w.heap.size) (by repeat' (first | (with_reducible assumption) | (with_reducible exact Below.refl _ _) | (with_reducible refine Blk.drewN ?_ _) | (with_reducible refine RowIn.drewN ?_ _) | (with_reducible refine below_drewN ?_ _) | (with_reducible refine Blk.drew ?_) | (with_reducible refine RowIn.drew ?_) | (with_reducible refine Below.drew ?_) | (with_reducible refine Blk.new' ?_ ?_ <;> first | (with_reducible rfl) | (simp; done)) | (with_reducible refine Blk.alloc ?_ _) | (with_reducible refine RowIn.alloc ?_ _) | (with_reducible refine Below.alloc ?_ ?_ _) | (with_reducible apply Blk.set') | (with_reducible apply Blk.far') | (with_reducible refine RowIn.far' ?_ ?_ _) | (with_reducible refine Below.far' ?_ ?_ _) | rfl | omega | go_size))) hdc hx hb).mono ?_
  rintro e w2 ⟨b2, hres⟩
  have s2 := b2.size
  try simp only [World.size_alloc, World.size_setCell, World.size_drew, size_drewN] at s2
  obtain ⟨zs_2, zr_2, ra_2, rd_2, bb_2⟩ : Blk w2 (w.heap.size) 40 [.int .i64 (n : Int), .int .i64 (x0 : Int), .int .i64 (x1 : Int), .int .u64 (y0 : Int), .int .u64 (y1 : Int), .slice A m c, .int .i64 (((bs.length : Nat)) : Int)] ∧ Blk w2 (w.heap.size + 1) 40 [.int .i64 0, .int .i64 0, .int .i64 0, .int .u64 0, .int .u64 0, .slice none 0 0, .int .i64 0] ∧ RowIn .u8 w2 (0) (w.heap.size) A m (pack bs) ∧ RowIn .u8 w2 (0) (w.heap.size) D nb xs ∧ Below w.heap.size w w2 := by
    refine ⟨?_, ?_, ?_, ?_, ?_⟩
    all_goals repeat' (first | (with_reducible assumption) | (with_reducible exact Below.refl _ _) | (with_reducible refine Blk.drewN ?_ _) | (with_reducible refine RowIn.drewN ?_ _) | (with_reducible refine below_drewN ?_ _) | (with_reducible refine Blk.drew ?_) | (with_reducible refine RowIn.drew ?_) | (with_reducible refine Below.drew ?_) | (with_reducible refine Blk.new' ?_ ?_ <;> first | (with_reducible rfl) | (simp; done)) | (with_reducible refine Blk.alloc ?_ _) | (with_reducible refine RowIn.alloc ?_ _) | (with_reducible refine Below.alloc ?_ ?_ _) | (with_reducible apply Blk.set') | (with_reducible apply Blk.far') | (with_reducible refine RowIn.far' ?_ ?_ _) | (with_reducible refine Below.far' ?_ ?_ _) | (with_reducible refine Blk.after ?_ b2) | (with_reducible refine RowIn.belowS ?_ b2) | (with_reducible refine Below.after ?_ b2 ?_) | rfl | omega | go_size)
  have ks_2 := zs_2.cell; have fs_2 := zs_2.frozen; have ls_2 := zs_2.lt
  have kr_2 := zr_2.cell; have fr_2 := zr_2.frozen; have lr_2 := zr_2.lt
  cases hfd : feed n ⟨x0, x1, y0, y1⟩ (bs ++ unpack xs) with
  | err er =>
    rw [hfd] at hres
    have h2 : e = _ := hres
    subst h2
    have HFD := Lib.hid hfd
    clear hres hfd
    go_wp2
    all_goals try (go_region; all_goals go_wp2)
    refine bodyPost_ret (v := .tuple #[.agg #[.int .i64 0, .int .i64 0, .int .i64 0, .int .u64 0, .int .u64 0, .slice none 0 0, .int .i64 0], .slice none 0 0, .int .i64 (er : Int)]) (by simp [results, Tryd.results25, go_sem, kr_2, lr_2, fr_2]) rfl ?_
    rw [HFD.out]
    refine gfeed_err (er := er) ⟨rfl, ?_⟩
    repeat' (first | (with_reducible assumption) | (with_reducible exact Below.refl _ _) | (with_reducible refine Blk.drewN ?_ _) | (with_reducible refine RowIn.drewN ?_ _) | (with_reducible refine below_drewN ?_ _) | (with_reducible refine Blk.drew ?_) | (with_reducible refine RowIn.drew ?_) | (with_reducible refine Below.drew ?_) | (with_reducible refine Blk.new' ?_ ?_ <;> first | (with_reducible rfl) | (simp; done)) | (with_reducible refine Blk.alloc ?_ _) | (with_reducible refine RowIn.alloc ?_ _) | (with_reducible refine Below.alloc ?_ ?_ _) | (with_reducible apply Blk.set') | (with_reducible apply Blk.far') | (with_reducible refine RowIn.far' ?_ ?_ _) | (with_reducible refine Below.far' ?_ ?_ _) | rfl | omega | go_size)
  | ok vs n2 d2 r2 =>
    rw [hfd] at hres
    obtain ⟨t0, t1', t2, t3, m2, c2, k2, dd2, A2, B2, bs2, zs2, rfl, HD2, hc2, HB2, ra2, hd2, HZ2, rz2⟩ := hres
    have HFD := Lib.hid hfd
    clear hfd
    go_wp2
    all_goals try (go_region; all_goals go_wp2)
    refine bodyPost_ret (v := .tuple #[.agg #[.int .i64 (n2 : Int), .int .i64 (t0 : Int), .int .i64 (t1' : Int), .int .u64 (t2 : Int), .int .u64 (t3 : Int), .slice A2 m2 c2, .int .i64 (((bs2.length : Nat)) : Int)], .slice B2 k2 dd2, .int .i64 0]) (by simp [results, Tryd.results25, go_sem, kr_2, lr_2, fr_2]) rfl ?_
    rw [HFD.out]
    refine ⟨?_, t0, t1', t2, t3, m2, c2, k2, dd2, A2, B2, bs2, zs2, rfl, HD2, hc2, HB2, ?_, hd2, HZ2, ?_⟩
    · repeat' (first | (with_reducible assumption) | (with_reducible exact Below.refl _ _) | (with_reducible refine Blk.drewN ?_ _) | (with_reducible refine RowIn.drewN ?_ _) | (with_reducible refine below_drewN ?_ _) | (with_reducible refine Blk.drew ?_) | (with_reducible refine RowIn.drew ?_) | (with_reducible refine Below.drew ?_) | (with_reducible refine Blk.new' ?_ ?_ <;> first | (with_reducible rfl) | (simp; done)) | (with_reducible refine Blk.alloc ?_ _) | (with_reducible refine RowIn.alloc ?_ _) | (with_reducible refine Below.alloc ?_ ?_ _) | (with_reducible apply Blk.set') | (with_reducible apply Blk.far') | (with_reducible refine RowIn.far' ?_ ?_ _) | (with_reducible refine Below.far' ?_ ?_ _) | rfl | omega | go_size)
    · refine RowIn.mono (lo := w1.heap.size) (hi := w2.heap.size) ?_ (by omega) (by go_size)
      repeat' (first | (with_reducible assumption) | (with_reducible exact Below.refl _ _) | (with_reducible refine Blk.drewN ?_ _) | (with_reducible refine RowIn.drewN ?_ _) | (with_reducible refine below_drewN ?_ _) | (with_reducible refine Blk.drew ?_) | (with_reducible refine RowIn.drew ?_) | (with_reducible refine Below.drew ?_) | (with_reducible refine Blk.new' ?_ ?_ <;> first | (with_reducible rfl) | (simp; done)) | (with_reducible refine Blk.alloc ?_ _) | (with_reducible refine RowIn.alloc ?_ _) | (with_reducible refine Below.alloc ?_ ?_ _) | (with_reducible apply Blk.set') | (with_reducible apply Blk.far') | (with_reducible refine RowIn.far' ?_ ?_ _) | (with_reducible refine Below.far' ?_ ?_ _) | rfl | omega | go_size)
    · refine RowIn.mono (lo := w1.heap.size) (hi := w2.heap.size) ?_ (by omega) (by go_size)
      repeat' (first | (with_reducible assumption) | (with_reducible exact Below.refl _ _) | (with_reducible refine Blk.drewN ?_ _) | (with_reducible refine RowIn.drewN ?_ _) | (with_reducible refine below_drewN ?_ _) | (with_reducible refine Blk.drew ?_) | (with_reducible refine RowIn.drew ?_) | (with_reducible refine Below.drew ?_) | (with_reducible refine Blk.new' ?_ ?_ <;> first | (with_reducible rfl) | (simp; done)) | (with_reducible refine Blk.alloc ?_ _) | (with_reducible refine RowIn.alloc ?_ _) | (with_reducible refine Below.alloc ?_ ?_ _) | (with_reducible apply Blk.set') | (with_reducible apply Blk.far') | (with_reducible refine RowIn.far' ?_ ?_ _) | (with_reducible refine Below.far' ?_ ?_ _) | rfl | omega | go_size)


set_option maxRecDepth 100000 in
set_option maxHeartbeats 1000000 in
theorem rrsame_eq (L p0 p1 q0 q1 N M : Int) (m c m2 c2 : Nat) (A A2 : Option Addr) (xs ys : List Int) (w : World) (ha : Row .u8 w A m xs) (ha2 : Row .u8 w A2 m2 ys) (hb : Within 0 255 xs) (he : xs = ys) (hN : N = M) :
    Calls Tryd.prog 28 #[.agg #[.int .i64 (L : Int), .int .i64 (p0 : Int), .int .i64 (p1 : Int), .int .u64 (q0 : Int), .int .u64 (q1 : Int), .slice A m c, .int .i64 (N : Int)], .agg #[.int .i64 (L : Int), .int .i64 (p0 : Int), .int .i64 (p1 : Int), .int .u64 (q0 : Int), .int .u64 (q1 : Int), .slice A2 m2 c2, .int .i64 (M : Int)]] w fun e w' => e = .returned (.bool true) ∧ Below w.heap.size w w' := by
  subst he
  have HNM := Lib.hid hN
  clear hN
  have hri := ha.rowIn
  have hri2 := ha2.rowIn
  have g1 : (L == L) = true := by simp
  have g2 : (p0 == p0) = true := by simp
  go_enter Tryd.func28, Tryd.ntmps28
  go_wp2_with fail
  refine (rsame_eq A A2 m m2 c c2 N M xs xs _ (by exact RowIn.row (lo := 0) (hi := w.heap.size) (by repeat' (first | (with_reducible assumption) | (with_reducible exact Below.refl _ _) | (with_reducible refine Blk.drewN ?_ _) | (with_reducible refine RowIn.drewN ?_ _) | (with_reducible refine below_drewN ?_ _) | (with_reducible refine Blk.drew ?_) | (with_reducible refine RowIn.drew ?_) | (with_reducible refine Below.drew ?_) | (with_reducible refine Blk.new' ?_ ?_ <;> first | (with_reducible rfl) | (simp; done)) | (with_reducible refine Blk.alloc ?_ _) | (with_reducible refine RowIn.alloc ?_ _) | (with_reducible refine Below.alloc ?_ ?_ _) | (with_reducible apply Blk.set') | (with_reducible apply Blk.far') | (with_reducible refine RowIn.far' ?_ ?_ _) | (with_reducible refine Below.far' ?_ ?_ _) | rfl | omega | go_size))) (by exact RowIn.row (lo := 0) (hi := w.heap.size) (by repeat' (first | (with_reducible assumption) | (with_reducible exact Below.refl _ _) | (with_reducible refine Blk.drewN ?_ _) | (with_reducible refine RowIn.drewN ?_ _) | (with_reducible refine below_drewN ?_ _) | (with_reducible refine Blk.drew ?_) | (with_reducible refine RowIn.drew ?_) | (with_reducible refine Below.drew ?_) | (with_reducible refine Blk.new' ?_ ?_ <;> first | (with_reducible rfl) | (simp; done)) | (with_reducible refine Blk.alloc ?_ _) | (with_reducible refine RowIn.alloc ?_ _) | (with_reducible refine Below.alloc ?_ ?_ _) | (with_reducible apply Blk.set') | (with_reducible apply Blk.far') | (with_reducible refine RowIn.far' ?_ ?_ _) | (with_reducible refine Below.far' ?_ ?_ _) | rfl | omega | go_size))) hb hb HNM.out rfl).mono ?_
  rintro e w1 ⟨rfl, b1⟩
  have s1 := b1.size
  try simp only [World.size_alloc, World.size_setCell, World.size_drew, size_drewN] at s1
  obtain ⟨za_1, zb_1, rx_1, ry_1, bb_1⟩ : Blk w1 (w.heap.size) 40 [.int .i64 (L : Int), .int .i64 (p0 : Int), .int .i64 (p1 : Int), .int .u64 (q0 : Int), .int .u64 (q1 : Int), .slice A m c, .int .i64 (N : Int)] ∧ Blk w1 (w.heap.size + 1) 40 [.int .i64 (L : Int), .int .i64 (p0 : Int), .int .i64 (p1 : Int), .int .u64 (q0 : Int), .int .u64 (q1 : Int), .slice A2 m2 c2, .int .i64 (M : Int)] ∧ RowIn .u8 w1 (0) (w.heap.size) A m xs ∧ RowIn .u8 w1 (0) (w.heap.size) A2 m2 xs ∧ Below w.heap.size w w1 := by
    refine ⟨?_, ?_, ?_, ?_, ?_⟩
    all_goals repeat' (first | (with_reducible assumption) | (with_reducible exact Below.refl _ _) | (with_reducible refine Blk.drewN ?_ _) | (with_reducible refine RowIn.drewN ?_ _) | (with_reducible refine below_drewN ?_ _) | (with_reducible refine Blk.drew ?_) | (with_reducible refine RowIn.drew ?_) | (with_reducible refine Below.drew ?_) | (with_reducible refine Blk.new' ?_ ?_ <;> first | (with_reducible rfl) | (simp; done)) | (with_reducible refine Blk.alloc ?_ _) | (with_reducible refine RowIn.alloc ?_ _) | (with_reducible refine Below.alloc ?_ ?_ _) | (with_reducible apply Blk.set') | (with_reducible apply Blk.far') | (with_reducible refine RowIn.far' ?_ ?_ _) | (with_reducible refine Below.far' ?_ ?_ _) | (with_reducible refine Blk.after ?_ b1) | (with_reducible refine RowIn.belowS ?_ b1) | (with_reducible refine Below.after ?_ b1 ?_) | rfl | omega | go_size)
  clear b1
  have ka_1 := za_1.cell; have fa_1 := za_1.frozen; have la_1 := za_1.lt
  have kb_1 := zb_1.cell; have fb_1 := zb_1.frozen; have lb_1 := zb_1.lt
  go_wp2
  go_ret
  refine ⟨rfl, ?_⟩
  repeat' (first | (with_reducible assumption) | (with_reducible exact Below.refl _ _) | (with_reducible refine Blk.drewN ?_ _) | (with_reducible refine RowIn.drewN ?_ _) | (with_reducible refine below_drewN ?_ _) | (with_reducible refine Blk.drew ?_) | (with_reducible refine RowIn.drew ?_) | (with_reducible refine Below.drew ?_) | (with_reducible refine Blk.new' ?_ ?_ <;> first | (with_reducible rfl) | (simp; done)) | (with_reducible refine Blk.alloc ?_ _) | (with_reducible refine RowIn.alloc ?_ _) | (with_reducible refine Below.alloc ?_ ?_ _) | (with_reducible apply Blk.set') | (with_reducible apply Blk.far') | (with_reducible refine RowIn.far' ?_ ?_ _) | (with_reducible refine Below.far' ?_ ?_ _) | rfl | omega | go_size)


theorem r10great_yes (A : Option Addr) (n c : Nat) (w : World) (h : 190 < n ∧ n ≤ 41000 ∨ 41100 < n) :
    Calls Tryd.prog 23 #[.slice A n c] w fun e w' => e = .returned (.bool true) ∧ Below w.heap.size w w' := by
  rcases h with ⟨h1, h2⟩ | h
  · have t1 : decide ((190 : Int) < (n : Int)) = true := decide_eq_true (by omega)
    have t2 : decide ((n : Int) ≤ 41000) = true := decide_eq_true (by omega)
    go_enter Tryd.func23, Tryd.ntmps23
    go_wp2
    go_ret
    exact ⟨rfl, by go_grown⟩
  · have t1 : decide ((190 : Int) < (n : Int)) = true := decide_eq_true (by omega)
    have t2 : decide ((n : Int) ≤ 41000) = false := decide_eq_false (by omega)
    have t3 : decide ((41100 : Int) < (n : Int)) = true := decide_eq_true (by omega)
    go_enter Tryd.func23, Tryd.ntmps23
    go_wp2
    go_ret
    exact ⟨rfl, by go_grown⟩
theorem r10great_no (A : Option Addr) (n c : Nat) (w : World) (h : ¬ (190 < n ∧ n ≤ 41000 ∨ 41100 < n)) :
    Calls Tryd.prog 23 #[.slice A n c] w fun e w' => e = .returned (.bool false) ∧ Below w.heap.size w w' := by
  have t3 : decide ((41100 : Int) < (n : Int)) = false := decide_eq_false (by omega)
  by_cases h1 : 190 < n
  · have t1 : decide ((190 : Int) < (n : Int)) = true := decide_eq_true (by omega)
    have t2 : decide ((n : Int) ≤ 41000) = false := decide_eq_false (by omega)
    go_enter Tryd.func23, Tryd.ntmps23
    go_wp2
    go_ret
    exact ⟨rfl, by go_grown⟩
  · have t1 : decide ((190 : Int) < (n : Int)) = false := decide_eq_false (by omega)
    go_enter Tryd.func23, Tryd.ntmps23
    go_wp2
    go_ret
    exact ⟨rfl, by go_grown⟩


end Go.Proofs.YtppilidcjlnmoaaDoor

/-
  Rows of values of one cell each (slices of slices), as the rows of integers: over any program.
-/
namespace Cad
open Go Go.RowKit Cad.Bit
set_option linter.unusedVariables false

/-- The slice reads as the values vs; its block is lo or younger, and older than hi. -/
def RowV (w : World) (lo hi : Nat) (A : Option Addr) (n : Nat) (vs : List Value) : Prop :=
  vs.length = n ∧ (0 < n → ∃ b off, A = some ⟨b, off, none⟩ ∧ lo ≤ b ∧ b < hi ∧ b < w.heap.size ∧ ∀ j, j < n → w.cell? ⟨b, off + j, none⟩ = vs[j]?)

section
variable {w w' : World} {lo hi : Nat} {A : Option Addr} {n : Nat} {vs : List Value}
theorem RowV.nil : RowV w lo hi A 0 [] := ⟨rfl, fun h => absurd h (by omega)⟩
theorem RowV.keep (h : RowV w lo hi A n vs) (hs : w.heap.size ≤ w'.heap.size) (hk : ∀ p : Addr, lo ≤ p.block → p.block < hi → p.block < w.heap.size → w'.cell? p = w.cell? p) : RowV w' lo hi A n vs :=
  ⟨h.1, fun hn => by
    obtain ⟨b, off, e, h1, h2, h3, hc⟩ := h.2 hn
    exact ⟨b, off, e, h1, h2, by omega, fun j hj => (hk _ h1 h2 h3).trans (hc j hj)⟩⟩
theorem RowV.mono {lo' hi' : Nat} (h : RowV w lo hi A n vs) (h1 : lo' ≤ lo) (h2 : hi ≤ hi') : RowV w lo' hi' A n vs :=
  ⟨h.1, fun hn => by
    obtain ⟨b, off, e, hb, hb2, h3, hc⟩ := h.2 hn
    exact ⟨b, off, e, by omega, by omega, h3, hc⟩⟩
theorem RowV.belowS (h : RowV w lo hi A n vs) (hb : Below w.heap.size w w') : RowV w' lo hi A n vs := h.keep hb.size fun p _ _ h3 => hb.cell h3
theorem RowV.below {B : Nat} (h : RowV w lo hi A n vs) (hb : Below B w w') (hB : hi ≤ B) : RowV w' lo hi A n vs := h.keep hb.size fun p _ h2 _ => hb.cell (by omega)
theorem RowV.alloc (h : RowV w lo hi A n vs) (o : Obj) : RowV (w.alloc o) lo hi A n vs := h.keep (by simp) fun p _ _ h3 => World.cell?_alloc_lt w o p h3
theorem RowV.drew (h : RowV w lo hi A n vs) : RowV w.drew lo hi A n vs := h
theorem RowV.drewN (h : RowV w lo hi A n vs) (m : Nat) : RowV (w.drewN m) lo hi A n vs := h
theorem RowV.far' {b i : Nat} (h : RowV w lo hi A n vs) (hp : b < lo ∨ hi ≤ b) (u : Value) : RowV (w.setCell ⟨b, i, none⟩ u) lo hi A n vs :=
  h.keep (by simp [World.setCell]) fun q h1 h2 _ => World.cell?_setCell_other w ⟨b, i, none⟩ q u (fun e => by subst e; simp only at h1 h2; omega)
end

/-- What the append law asks of an element type of one cell. -/
structure ElemV (P : Program) (t e : TypeId) (z : Value) (by_ : Nat) : Prop where
  slice : P.underlying t = some (.slice e)
  info : ∃ i, P.info? e = some i ∧ i.zero = some z ∧ i.size = 1 ∧ i.bytes = by_
  one : z.cells.size = 1
  small : by_ ≤ 24

/-- A slice of the call's own (its block is 'base' or younger), which reads as the values vs. -/
def OwnV (w : World) (base : Nat) (e : TypeId) (A : Option Addr) (n c : Nat) (vs : List Value) : Prop := w.ownsRow base e 1 (.slice A n c) n vs

section
variable {w w' : World} {base : Nat} {e : TypeId} {A : Option Addr} {n c : Nat} {vs : List Value}
theorem OwnV.nil (w : World) (base : Nat) (e : TypeId) : OwnV w base e none 0 0 [] := World.ownsRow_nil w base e 1
theorem OwnV.len (h : OwnV w base e A n c vs) : vs.length = n := by have := h.1; simpa using this
theorem OwnV.cases (h : OwnV w base e A n c vs) : (A = none ∧ n = 0 ∧ c = 0 ∧ vs = []) ∨ ∃ g rest, A = some ⟨g, 0, none⟩ ∧ base ≤ g ∧ n ≤ c ∧ c ≤ maxLen ∧ n + rest.length = c ∧ Blk w g e (vs ++ rest) := by
  have hl := h.len
  rcases h.2 with ⟨hv, h0⟩ | ⟨g, cap, cur, hv, hb, hh, hnc, hcm, hs, ht⟩
  · injection hv with h1 h2 h3
    exact .inl ⟨h1, h0, h3, List.eq_nil_of_length_eq_zero (by omega)⟩
  · injection hv with h1 h2 h3
    subst h1 h3
    refine .inr ⟨g, cur.toList.drop n, rfl, hb, hnc, hcm, ?_, ?_⟩
    · rw [List.length_drop, Array.length_toList]; omega
    · unfold Blk
      rw [hh]
      have : vs ++ cur.toList.drop n = cur.toList := by
        rw [← ht, Nat.mul_one, List.take_append_drop]
      rw [this]
theorem OwnV.mk {g : Nat} {rest : List Value} (hb : base ≤ g) (hn : vs.length = n) (hc : n + rest.length = c) (hm : c ≤ maxLen) (hk : Blk w g e (vs ++ rest)) : OwnV w base e (some ⟨g, 0, none⟩) n c vs := by
  refine ⟨by simpa using hn, .inr ⟨g, c, (vs ++ rest).toArray, rfl, hb, hk, by omega, hm, by simp; omega, ?_⟩⟩
  subst hn
  rw [show (vs ++ rest).toArray.toList = vs ++ rest from rfl, Nat.mul_one, List.take_left' (by simp)]
theorem OwnV.cap (h : OwnV w base e A n c vs) : n ≤ c ∧ c ≤ 9223372036854775807 := by
  rcases h.cases with ⟨_, h0, h1, _⟩ | ⟨g, rest, _, _, h1, h2, _⟩
  · subst h0 h1; exact ⟨Nat.le_refl _, Nat.zero_le _⟩
  · exact ⟨h1, Nat.le_trans h2 (by simp only [maxLen]; omega)⟩
theorem OwnV.block (h : OwnV w base e A n c vs) : ∀ g, blockOf A = some g → base ≤ g ∧ g < w.heap.size := by
  intro g hg
  exact World.ownsRow.lt h g (by rw [ownBlock_slice]; exact hg)
theorem OwnV.rowV (h : OwnV w base e A n c vs) : RowV w base w.heap.size A n vs := by
  refine ⟨h.len, fun hn => ?_⟩
  have hl := h.len
  rcases h.cases with ⟨_, h0, _⟩ | ⟨g, rest, rfl, hb, _, _, _, hk⟩
  · omega
  · refine ⟨g, 0, rfl, hb, hk.lt, hk.lt, fun j hj => ?_⟩
    rw [Nat.zero_add, hk.cell, List.getElem?_append_left (by omega)]
theorem OwnV.grown {row : Option Nat} (h : OwnV w base e A n c vs) (hg : w.grownBy w' row) (hne : ∀ g, row = some g → blockOf A ≠ some g) : OwnV w' base e A n c vs := by
  refine World.ownsRow.kept h hg ?_
  rw [ownBlock_slice]
  cases row with
  | none => cases A with
    | none => exact .inl rfl
    | some a => exact .inr (by simp [blockOf])
  | some g => exact .inr (hne g rfl)
theorem OwnV.below {B : Nat} (h : OwnV w base e A n c vs) (hb : Below B w w') (hB : w.heap.size ≤ B) : OwnV w' base e A n c vs :=
  World.ownsRow.kept h (only_of_below (hb.mono hB) none) (by cases A with
    | none => exact .inl rfl
    | some a => exact .inr (by simp [Value.ownBlock]))
theorem OwnV.frm {S : Nat → Prop} (h : OwnV w base e A n c vs) (hf : Frm S w w') (hs : ∀ g, blockOf A = some g → ¬ S g) : OwnV w' base e A n c vs := by
  rcases h.cases with ⟨rfl, rfl, rfl, rfl⟩ | ⟨g, rest, rfl, hb, hnc, hcm, hr, hk⟩
  · exact OwnV.nil _ _ _
  · exact OwnV.mk hb h.len hr hcm (hk.frm hf (hs g rfl))
theorem OwnV.ne_blk {g : Nat} {t : TypeId} {l : List Value} (h : OwnV w base e A n c vs) (hg : Blk w g t l) (hne : e ≠ t) : blockOf A ≠ some g := by
  rcases h.cases with ⟨rfl, _⟩ | ⟨g', rest, rfl, _, _, _, _, hk⟩
  · intro h; cases h
  · intro he
    have : g' = g := by simpa [blockOf] using he
    subst this
    unfold Blk at hk hg
    rw [hk] at hg
    injection hg with hg
    injection hg with _ ht
    exact hne ht
theorem OwnV.drewN (h : OwnV w base e A n c vs) (m : Nat) : OwnV (w.drewN m) base e A n c vs := h
theorem OwnV.drew (h : OwnV w base e A n c vs) : OwnV w.drew base e A n c vs := h
theorem OwnV.alloc (h : OwnV w base e A n c vs) (o : Obj) : OwnV (w.alloc o) base e A n c vs := World.ownsRow.alloc h o
theorem OwnV.far' {b i : Nat} (h : OwnV w base e A n c vs) (hb : blockOf A ≠ some b) (u : Value) : OwnV (w.setCell ⟨b, i, none⟩ u) base e A n c vs :=
  h.frm (S := fun j => j = b) ((Frm.refl (fun j => j = b) w).setCell (p := ⟨b, i, none⟩) (fun _ => rfl) u) (fun j e hj => hb (by rw [e, hj]))
end

section
variable {P : Program} (w : World)

theorem run_appV {t e : TypeId} {z : Value} {by_ : Nat} (E : ElemV P t e z by_) (ty : TypeId) (base : Nat) (A : Option Addr) (n c : Nat) (xs : List Value) (hown : OwnV w base e A n c xs)
    (ad : Addr) (m d : Nat) (ys : List Value) (hl : ys.length = m) (hr : ∀ j u, ys[j]? = some u → w.cell? (ad.add j) = some u) (h1 : ∀ u ∈ ys, u.oneCell' = true) (hsm : n + m ≤ 1000000) (hbase : base ≤ w.heap.size) :
    ∃ A' c' w', (Builtin.append_ #[t, t] ty #[.slice A n c, .slice (some ad) m d]).run P w = .ok (.slice A' (n + m) c') w' ∧ OwnV w' base e A' (n + m) c' (xs ++ ys) ∧ w.grownBy w' (blockOf A) ∧
      (blockOf A' = blockOf A ∨ blockOf A' = some w.heap.size) := by
  obtain ⟨i, hi, hz, hs, hby⟩ := E.info
  have hsm' : (n + m) * by_ ≤ 140737488355328 := by
    have := E.small
    calc (n + m) * by_ ≤ 1000000 * 24 := Nat.mul_le_mul hsm this
      _ ≤ 140737488355328 := by omega
  obtain ⟨v', w', hrun, h2, h3, _, h4⟩ := run_append_own_at (P := P) w base t ty e i z 1 by_ E.slice hi hz hs hby E.one (by omega) (.slice A n c) n xs hown ad m d ys
    (by omega) hr h1 (by simp only [maxLen]; omega) hsm' hbase
  have hform : ∃ A' c', v' = .slice A' (n + m) c' := by
    rcases h2.2 with ⟨rfl, h0⟩ | ⟨g, cap, cur, rfl, _⟩
    · exact ⟨none, 0, by rw [h0]⟩
    · exact ⟨_, cap, rfl⟩
  obtain ⟨A', c', rfl⟩ := hform
  rw [ownBlock_slice, ownBlock_slice] at h4
  rw [ownBlock_slice] at h3
  exact ⟨A', c', w', hrun, h2, h3, h4⟩
theorem wp_appV {o : Oper} {a : Act} {K : Act → World → Prop} {Q : Exit → Act → World → Prop} {t e : TypeId} {z : Value} {by_ : Nat} (E : ElemV P t e z by_) (s x : Operand)
    (ho : o.op = .call { callee := .builtin .append, args := #[s, x], argTypes := #[t, t] })
    (base : Nat) (A : Option Addr) (n c : Nat) (xs : List Value) (hs : a.eval s = .slice A n c) (hown : OwnV w base e A n c xs)
    (ad : Addr) (m d : Nat) (ys : List Value) (hx : a.eval x = .slice (some ad) m d) (hl : ys.length = m) (hr : ∀ j u, ys[j]? = some u → w.cell? (ad.add j) = some u) (h1 : ∀ u ∈ ys, u.oneCell' = true) (hsm : n + m ≤ 1000000) (hbase : base ≤ w.heap.size)
    (h : ∀ A' c' w', OwnV w' base e A' (n + m) c' (xs ++ ys) → w.grownBy w' (blockOf A) → (blockOf A' = blockOf A ∨ blockOf A' = some w.heap.size) → K (a.put o.dst (.slice A' (n + m) c')) w') : o.wp P a w K Q := by
  obtain ⟨A', c', w', hrun, h2, h3, h4⟩ := run_appV w E o.type base A n c xs hown ad m d ys hl hr h1 hsm hbase
  unfold Oper.wp execOp
  simp only [ho, resolve, invoke, builtin, Sem.run_bind, Sem.run_pure, Result.andThen_ok, List.map_toArray, List.map_cons, List.map_nil, hs, hx, hrun]
  exact h A' c' w' h2 h3 h4
/-- 'append(s, x)' of values of one cell: s is the call's own, the new ones stand in a fresh block. -/
theorem wpList_appV {ops : Array Oper} {rest : List Oper} {o : Oper} {a : Act} {Q : Exit → Act → World → Prop} {t e : TypeId} {z : Value} {by_ : Nat} (E : ElemV P t e z by_) (hgd : o.guard = none) (s x : Operand)
    (ho : o.op = .call { callee := .builtin .append, args := #[s, x], argTypes := #[t, t] })
    (base : Nat) (A : Option Addr) (n c : Nat) (xs : List Value) (hs : a.eval s = .slice A n c) (hown : OwnV w base e A n c xs)
    (ad : Addr) (m d : Nat) (ys : List Value) (hx : a.eval x = .slice (some ad) m d) (hl : ys.length = m) (hr : ∀ j u, ys[j]? = some u → w.cell? (ad.add j) = some u) (h1 : ∀ u ∈ ys, u.oneCell' = true) (hsm : n + m ≤ 1000000) (hbase : base ≤ w.heap.size)
    (h : ∀ A' c' w', OwnV w' base e A' (n + m) c' (xs ++ ys) → w.grownBy w' (blockOf A) → (blockOf A' = blockOf A ∨ blockOf A' = some w.heap.size) → wpList P ops Q rest (a.put o.dst (.slice A' (n + m) c')) w') :
    wpList P ops Q (o :: rest) a w :=
  wpList_plain hgd fun _ hK => wp_appV w E s x ho base A n c xs hs hown ad m d ys hx hl hr h1 hsm hbase fun A' c' w' h2 h3 h4 => hK _ _ (h A' c' w' h2 h3 h4)
end

/-- The cells of a fresh block, as 'append' reads them. -/
theorem fresh_cells {w : World} {g : Nat} {t : TypeId} {l : List Value} (h : Blk w g t l) : ∀ j u, l[j]? = some u → w.cell? ((⟨g, 0, none⟩ : Addr).add j) = some u := fun j u hu => by
  have e : (⟨g, 0, none⟩ : Addr).add j = ⟨g, j, none⟩ := by
    unfold Addr.add
    by_cases h0 : j = 0 <;> simp [h0]
  rw [e, h.cell]; exact hu
theorem Blk.far7 {w : World} {g b : Nat} {t : TypeId} {l : List Value} {u0 u1 u2 u3 u4 u5 u6 : Value} (h : Blk w g t l) (hp : g ≠ b) : Blk (((((((w.setCell ⟨b, 0, none⟩ u0).setCell ⟨b, 1, none⟩ u1).setCell ⟨b, 2, none⟩ u2).setCell ⟨b, 3, none⟩ u3).setCell ⟨b, 4, none⟩ u4).setCell ⟨b, 5, none⟩ u5).setCell ⟨b, 6, none⟩ u6) g t l := (Blk.far' (Blk.far' (Blk.far' (Blk.far' (Blk.far' (Blk.far' (Blk.far' h hp u0) hp u1) hp u2) hp u3) hp u4) hp u5) hp u6)
theorem RowIn.far7 {w : World} {k : IntKind} {lo hi b n : Nat} {A : Option Addr} {xs : List Int} {u0 u1 u2 u3 u4 u5 u6 : Value} (h : RowIn k w lo hi A n xs) (hp : b < lo ∨ hi ≤ b) : RowIn k (((((((w.setCell ⟨b, 0, none⟩ u0).setCell ⟨b, 1, none⟩ u1).setCell ⟨b, 2, none⟩ u2).setCell ⟨b, 3, none⟩ u3).setCell ⟨b, 4, none⟩ u4).setCell ⟨b, 5, none⟩ u5).setCell ⟨b, 6, none⟩ u6) lo hi A n xs := (RowIn.far' (RowIn.far' (RowIn.far' (RowIn.far' (RowIn.far' (RowIn.far' (RowIn.far' h hp u0) hp u1) hp u2) hp u3) hp u4) hp u5) hp u6)
theorem Below.far7 {w a : World} {B b : Nat} {u0 u1 u2 u3 u4 u5 u6 : Value} (h : Below B a w) (hp : B ≤ b) : Below B a (((((((w.setCell ⟨b, 0, none⟩ u0).setCell ⟨b, 1, none⟩ u1).setCell ⟨b, 2, none⟩ u2).setCell ⟨b, 3, none⟩ u3).setCell ⟨b, 4, none⟩ u4).setCell ⟨b, 5, none⟩ u5).setCell ⟨b, 6, none⟩ u6) := (Below.far' (Below.far' (Below.far' (Below.far' (Below.far' (Below.far' (Below.far' h hp u0) hp u1) hp u2) hp u3) hp u4) hp u5) hp u6)
theorem Own.far7 {w : World} {base b : Nat} {e : TypeId} {k : IntKind} {A : Option Addr} {n c : Nat} {xs : List Int} {u0 u1 u2 u3 u4 u5 u6 : Value} (h : Own w base e k A n c xs) (hp : blockOf A ≠ some b) : Own (((((((w.setCell ⟨b, 0, none⟩ u0).setCell ⟨b, 1, none⟩ u1).setCell ⟨b, 2, none⟩ u2).setCell ⟨b, 3, none⟩ u3).setCell ⟨b, 4, none⟩ u4).setCell ⟨b, 5, none⟩ u5).setCell ⟨b, 6, none⟩ u6) base e k A n c xs := (Own.far' (Own.far' (Own.far' (Own.far' (Own.far' (Own.far' (Own.far' h hp u0) hp u1) hp u2) hp u3) hp u4) hp u5) hp u6)
theorem Blk.set7 {w : World} {b : Nat} {t : TypeId} {a0 a1 a2 a3 a4 a5 a6 u0 u1 u2 u3 u4 u5 u6 : Value} (h : Blk w b t [a0, a1, a2, a3, a4, a5, a6]) : Blk (((((((w.setCell ⟨b, 0, none⟩ u0).setCell ⟨b, 1, none⟩ u1).setCell ⟨b, 2, none⟩ u2).setCell ⟨b, 3, none⟩ u3).setCell ⟨b, 4, none⟩ u4).setCell ⟨b, 5, none⟩ u5).setCell ⟨b, 6, none⟩ u6) b t [u0, u1, u2, u3, u4, u5, u6] := (Blk.set' (l0 := [u0, u1, u2, u3, u4, u5, a6]) (Blk.set' (l0 := [u0, u1, u2, u3, u4, a5, a6]) (Blk.set' (l0 := [u0, u1, u2, u3, a4, a5, a6]) (Blk.set' (l0 := [u0, u1, u2, a3, a4, a5, a6]) (Blk.set' (l0 := [u0, u1, a2, a3, a4, a5, a6]) (Blk.set' (l0 := [u0, a1, a2, a3, a4, a5, a6]) (Blk.set' (l0 := [a0, a1, a2, a3, a4, a5, a6]) h rfl) rfl) rfl) rfl) rfl) rfl) rfl)
/-- A row of integers does not lie in a block that has no such integers: it stays when that block is written. -/
theorem far7_ne {w : World} {k : IntKind} {lo hi b n : Nat} {A : Option Addr} {xs : List Int} {t : TypeId} {l : List Value} {u0 u1 u2 u3 u4 u5 u6 : Value} (h : RowIn k w lo hi A n xs) (hb : Blk w b t l) (hl : ∀ (i : Nat) (v : Int), l[i]? = some (.int k v) → False) : RowIn k (((((((w.setCell ⟨b, 0, none⟩ u0).setCell ⟨b, 1, none⟩ u1).setCell ⟨b, 2, none⟩ u2).setCell ⟨b, 3, none⟩ u3).setCell ⟨b, 4, none⟩ u4).setCell ⟨b, 5, none⟩ u5).setCell ⟨b, 6, none⟩ u6) lo hi A n xs := by
  by_cases hn : n = 0
  · exact ⟨h.1, fun h0 => absurd h0 (by omega)⟩
  · obtain ⟨b0, off, e, h1, h2, hc⟩ := h.2 (by omega)
    have hne : b ≠ b0 := by
      rintro rfl
      have h3 := hc 0 (by omega)
      rw [hb.cell] at h3
      exact hl _ _ h3
    have h4 : RowIn k w b0 (b0 + 1) A n xs := ⟨h.1, fun _ => ⟨b0, off, e, Nat.le_refl _, Nat.lt_succ_self _, hc⟩⟩
    exact (RowIn.far7 h4 (by omega)).mono h1 h2
end Cad

