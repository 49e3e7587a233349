/-
  Contracts of tally: the closures and walk.
-/
import Derived.Test.YtpohaikbbfochaaLawDA
import Derived.Test.YtpohaikbbfochaaMerge
import Derived.Test.YtpohaikbbfochaaTal
namespace Go.Proofs.Ytpohaikbbfochaa
open Go.RowKit Cad Cad.Bit Cad.Code
set_option linter.unusedVariables false
set_option linter.unusedSimpArgs false

theorem i64E : Elem Try.prog 24 3 .i64 8 := ⟨Try.underlying24, Try.underlying3, by kernel_rfl, by decide⟩

set_option maxHeartbeats 400000 in
theorem each1_ok (base go j d x : Nat) (B : Option Addr) (ys : List Int) (w : World) (hlb : Blk w go 24 [.slice B j d]) (hown : Own w base 3 .i64 B j d ys) (hbase : base ≤ w.heap.size) (hj : j ≤ 8000) :
    Calls Try.prog 30 #[.int .i64 (x : Int), .pointer (some ⟨go, 0, none⟩)] w fun e w' => ∃ B' d', e = .returned (.bool true) ∧ Blk w' go 24 [.slice B' (j + 1) d'] ∧ Own w' base 3 .i64 B' (j + 1) d' (ys ++ [(x : Int)]) ∧ Frm (fun k => k = go ∨ blockOf B = some k) w w' := by
  have kl := hlb.cell; have fl := hlb.frozen; have ll := hlb.lt
  go_enter Try.func30, Try.ntmps30
  go_wp2_with (at_builtin; refine wpList_app _ i64E rfl _ _ rfl base _ _ _ _ rfl (by exact hown.alloc _) _ _ _ [(x : Int)] rfl (by exact row_one' rfl) (by omega) (by simp; omega) ?_)
  intro B2 d2 w8 own8 hg8 hat8
  have hne : blockOf B ≠ some go := hown.ne_blk hlb (by decide)
  have zl_8 : Blk w8 go 24 [.slice B j d] := by
    refine Blk.grown ?_ hg8 (fun e => hne e.symm)
    repeat' (first | (with_reducible first | assumption | exact Below.refl _ _ | refine Blk.drewN ?_ _ | refine RowIn.drewN ?_ _ | refine below_drewN ?_ _ | refine Blk.drew ?_ | refine RowIn.drew ?_ | refine Below.drew ?_) | (with_reducible refine Blk.new' ?_ ?_ <;> first | (with_reducible rfl) | (simp; done)) | (with_reducible first | refine Blk.alloc ?_ _ | refine RowIn.alloc ?_ _ | refine Below.alloc ?_ ?_ _ | apply Blk.set' | apply Blk.far' | refine RowIn.far' ?_ ?_ _ | refine Below.far' ?_ ?_ _) | (exact (Eq.refl _ : (_ : List Value) = _)) | omega | go_size)
  have fr8 := ((Frm.refl (fun k => k = go ∨ blockOf B = some k) w).alloc (.cells #[.int .i64 (x : Int)] 3)).grown hg8 (fun k e hk => Or.inr e)
  have hne8 : blockOf B2 ≠ some go := own8.ne_blk zl_8 (by decide)
  have kl_8 := zl_8.cell; have fl_8 := zl_8.frozen; have ll_8 := zl_8.lt
  clear hg8 hat8
  go_wp2
  go_ret
  refine ⟨B2, d2, rfl, ?_, ?_, ?_⟩
  · exact Blk.set' zl_8 rfl
  · exact own8.far' hne8 _
  · exact fr8.setCell (p := ⟨go, _, none⟩) (fun _ => Or.inl rfl) _

set_option maxHeartbeats 400000 in
theorem length1_ok (go s x : Nat) (w : World) (hs : Blk w go 3 [.int .i64 (s : Int)]) (hsl : s ≤ 1000000) (hx : x ≤ 1000) :
    Calls Try.prog 32 #[.int .i64 (x : Int), .pointer (some ⟨go, 0, none⟩)] w fun e w' => e = .returned (.bool true) ∧ Blk w' go 3 [.int .i64 ((s + x : Nat) : Int)] ∧ Frm (fun k => k = go) w w' := by
  have kl := hs.cell; have fl := hs.frozen; have ll := hs.lt
  go_enter Try.func32, Try.ntmps32
  go_wp2
  go_ret
  refine ⟨rfl, ?_, ?_⟩
  · exact Blk.set' hs (by simp)
  · exact (Frm.refl (fun k => k = go) w).setCell (p := ⟨go, _, none⟩) (fun _ => rfl) _


set_option maxRecDepth 100000 in
set_option maxHeartbeats 2000000 in
theorem walk_each (k0 : Value) (A : Option Addr) (n c : Nat) (xs : List Int) (w : World) (R : Nat → World → Prop) (Z : World → Prop) (hx : Within 0 4294967295 xs) (hn : n ≤ 4000) (hR : R 0 w)
    (hB : ∀ j w w', R j w → Below w.heap.size w w' → R j w') (hD : ∀ j w' g l i v, R j w' → w.heap.size ≤ g → Blk w' g 46 l → R j (w'.setCell ⟨g, i, none⟩ v)) (hL : ∀ j w, R j w → Row .u32 w A n xs) (hz : ∀ w, R n w → Z w)
    (hC : ∀ j w, j < n → R j w → Calls Try.prog 30 #[.int .i64 (lenAt Cad.Code.start xs j : Nat), k0] w fun e w' => (∀ g l, Blk w g 46 l → Blk w' g 46 l) ∧ ((e = .returned (.bool true) ∧ R (j + 1) w') ∨ (e = .returned (.bool false) ∧ Z w'))) :
    Calls Try.prog 29 #[.func (.func 30) #[] #[k0], .slice A n c] w fun e w' => e = .returned (.int .i64 0) ∧ Z w' := by
  have ht0 : decide ((4000 : Int) < (n : Int)) = false := decide_eq_false (by omega)
  have HB := Lib.hid hB; have HD := Lib.hid hD; have HL := Lib.hid hL; have HZ := Lib.hid hz; have HC := Lib.hid hC
  clear hB hD hL hz hC
  go_enter Try.func29, Try.ntmps29
  go_wp2_with fail
  refine (dstart_ok _).mono ?_
  rintro e w1 ⟨rfl, b1⟩
  have s1 := b1.size
  have R1 := HB.out _ _ _ hR b1
  clear hR b1
  go_wp2_with fail
  go_loopg [16] n (fun k v wr => ∃ (j p0 p1 q0 q1 : Nat), j + k = n ∧ v = .int .i64 (j : Nat) ∧ Hid ((⟨p0, p1, q0, q1⟩ : Dual) = stP Cad.Code.start xs j) ∧ Blk wr (w1.heap.size) 46 [.int .i64 (p0 : Int), .int .i64 (p1 : Int), .int .u64 (q0 : Int), .int .u64 (q1 : Int)] ∧ Hid (R j wr))
  case atStart =>
    exact ⟨0, 10, 10, 16384, 16384, by omega, rfl, Lib.hid rfl, by repeat' (first | (with_reducible first | assumption | exact Below.refl _ _ | refine Blk.drewN ?_ _ | refine RowIn.drewN ?_ _ | refine below_drewN ?_ _ | refine Blk.drew ?_ | refine RowIn.drew ?_ | refine Below.drew ?_) | (with_reducible refine Blk.new' ?_ ?_ <;> first | (with_reducible rfl) | (simp; done)) | (with_reducible first | refine Blk.alloc ?_ _ | refine RowIn.alloc ?_ _ | refine Below.alloc ?_ ?_ _ | apply Blk.set' | apply Blk.far' | refine RowIn.far' ?_ ?_ _ | refine Below.far' ?_ ?_ _) | (exact (Eq.refl _ : (_ : List Value) = _)) | omega | go_size), Lib.hid (HB.out _ _ _ R1 (by repeat' (first | exact Below.refl _ _ | exact (Below.refl _ _).alloc (Nat.le_refl _) _ | refine Below.drew ?_)))⟩
  case round =>
    obtain ⟨j, p0, p1, q0, q1, hj, rfl, HP, zd_5, HR⟩ := hrel
    have ha := HL.out _ _ HR.out
    have kd_5 := zd_5.cell; have fd_5 := zd_5.frozen; have ld_5 := zd_5.lt
    by_cases hlt : j < n
    · obtain ⟨bl, ol, rfl, hbl, hcell⟩ := ha.at (by omega)
      obtain ⟨v, hv⟩ : ∃ v, nth xs j = v := ⟨_, rfl⟩
      have hvb := hx.nth (by decide) (by decide) j
      rw [hv] at hvb
      have c0 : wr.cell? ⟨bl, ol + j, none⟩ = some (.int .u32 v) := by rw [hcell j hlt, hv]
      obtain ⟨v, rfl⟩ := Int.eq_ofNat_of_zero_le hvb.1
      have hv32 : v < 4294967296 := by omega
      have CL := Lib.hid c0
      have HV : Hid ((nth xs j).toNat = v) := Lib.hid (by rw [hv]; rfl)
      have hbL := hbl
      clear c0 hcell hv
      have hpo : Dual.Ok ⟨p0, p1, q0, q1⟩ := by rw [HP.out]; exact stP_ok start_ok hx j
      have HPO := Lib.hid hpo
      clear hpo
      obtain ⟨x, HX⟩ : ∃ x, Hid (lenD ⟨p0, p1, q0, q1⟩ v = x) := ⟨_, Lib.hid rfl⟩
      have HXA : Hid (lenAt Cad.Code.start xs j = x) := Lib.hid (by rw [← HX.out, HP.out, ← HV.out]; rfl)
      have hC := HC.out j
      rw [HXA.out] at hC
      have HCJ := Lib.hid hC
      clear hC
      have hlt1 : (j : Int) < (n : Int) := by omega
      have cl0 := CL.out
      go_wp2_with fail
      refine (dlen_c _ HPO.out hv32 HX.out).mono ?_
      rintro e w6 ⟨rfl, b6⟩
      have zd_6 := zd_5.after b6
      have R6 := HB.out _ _ _ HR.out b6
      have s6 := b6.size
      have kd_6 := zd_6.cell; have fd_6 := zd_6.frozen; have ld_6 := zd_6.lt
      clear zd_5 kd_5 fd_5 ld_5 HR cl0
      go_wp2_with fail
      refine (HCJ.out w6 hlt R6).mono ?_
      rintro e w7 ⟨hk7, hres⟩
      have zd_7 := hk7 _ _ zd_6
      have kd_7 := zd_7.cell; have fd_7 := zd_7.frozen; have ld_7 := zd_7.lt
      clear zd_6 kd_6 fd_6 ld_6 hk7
      rcases hres with ⟨rfl, R7⟩ | ⟨rfl, Z7⟩
      · obtain ⟨u0, u1, v0, v1, hu⟩ := Dual.four (learn ⟨p0, p1, q0, q1⟩ v)
        have HU := Lib.hid hu
        clear hu
        go_wp2_with fail
        refine (dlearn_c _ HPO.out hv32 HU.out).mono ?_
        rintro e w8 ⟨rfl, b8⟩
        have zd_8 := zd_7.after b8
        have R8 := HB.out _ _ _ R7 b8
        have kd_8 := zd_8.cell; have fd_8 := zd_8.frozen; have ld_8 := zd_8.lt
        clear zd_7 kd_7 fd_7 ld_7 R7
        have HP2 : Hid ((⟨u0, u1, v0, v1⟩ : Dual) = stP Cad.Code.start xs (j + 1)) := Lib.hid (by rw [stP_next, ← HP.out, HV.out, HU.out])
        go_wp2
        go_roundg (n - (j + 1))
        case measure => omega
        case rel =>
          refine ⟨j + 1, u0, u1, v0, v1, by omega, by go_num, HP2, ?_, Lib.hid ?_⟩
          · first | (with_reducible exact Blk.drew (Blk.alloc (Blk.set4 zd_8) _)) | (with_reducible exact Blk.alloc (Blk.drew (Blk.set4 zd_8)) _) | (with_reducible exact Blk.set4 (Blk.alloc (Blk.drew zd_8) _)) | (with_reducible exact Blk.alloc (Blk.set4 zd_8) _) | (with_reducible exact Blk.set4 (Blk.alloc zd_8 _)) | exact Blk.set4 zd_8
          · exact HD.out _ _ _ _ 3 _ (HD.out _ _ _ _ 2 _ (HD.out _ _ _ _ 1 _ (HD.out _ _ _ _ 0 _ R8 s1 zd_8) s1 (zd_8.set 0 _)) s1 ((zd_8.set 0 _).set 1 _)) s1 (((zd_8.set 0 _).set 1 _).set 2 _)
      · go_wp2
        go_ret
        exact ⟨rfl, Z7⟩
    · obtain rfl : j = n := by omega
      go_wp2
      go_ret
      exact ⟨rfl, HZ.out _ HR.out⟩


set_option maxRecDepth 100000 in
set_option maxHeartbeats 2000000 in
theorem walk_length (k0 : Value) (A : Option Addr) (n c : Nat) (xs : List Int) (w : World) (R : Nat → World → Prop) (Z : World → Prop) (hx : Within 0 4294967295 xs) (hn : n ≤ 4000) (hR : R 0 w)
    (hB : ∀ j w w', R j w → Below w.heap.size w w' → R j w') (hD : ∀ j w' g l i v, R j w' → w.heap.size ≤ g → Blk w' g 46 l → R j (w'.setCell ⟨g, i, none⟩ v)) (hL : ∀ j w, R j w → Row .u32 w A n xs) (hz : ∀ w, R n w → Z w)
    (hC : ∀ j w, j < n → R j w → Calls Try.prog 32 #[.int .i64 (lenAt Cad.Code.start xs j : Nat), k0] w fun e w' => (∀ g l, Blk w g 46 l → Blk w' g 46 l) ∧ ((e = .returned (.bool true) ∧ R (j + 1) w') ∨ (e = .returned (.bool false) ∧ Z w'))) :
    Calls Try.prog 29 #[.func (.func 32) #[] #[k0], .slice A n c] w fun e w' => e = .returned (.int .i64 0) ∧ Z w' := by
  have ht0 : decide ((4000 : Int) < (n : Int)) = false := decide_eq_false (by omega)
  have HB := Lib.hid hB; have HD := Lib.hid hD; have HL := Lib.hid hL; have HZ := Lib.hid hz; have HC := Lib.hid hC
  clear hB hD hL hz hC
  go_enter Try.func29, Try.ntmps29
  go_wp2_with fail
  refine (dstart_ok _).mono ?_
  rintro e w1 ⟨rfl, b1⟩
  have s1 := b1.size
  have R1 := HB.out _ _ _ hR b1
  clear hR b1
  go_wp2_with fail
  go_loopg [16] n (fun k v wr => ∃ (j p0 p1 q0 q1 : Nat), j + k = n ∧ v = .int .i64 (j : Nat) ∧ Hid ((⟨p0, p1, q0, q1⟩ : Dual) = stP Cad.Code.start xs j) ∧ Blk wr (w1.heap.size) 46 [.int .i64 (p0 : Int), .int .i64 (p1 : Int), .int .u64 (q0 : Int), .int .u64 (q1 : Int)] ∧ Hid (R j wr))
  case atStart =>
    exact ⟨0, 10, 10, 16384, 16384, by omega, rfl, Lib.hid rfl, by repeat' (first | (with_reducible first | assumption | exact Below.refl _ _ | refine Blk.drewN ?_ _ | refine RowIn.drewN ?_ _ | refine below_drewN ?_ _ | refine Blk.drew ?_ | refine RowIn.drew ?_ | refine Below.drew ?_) | (with_reducible refine Blk.new' ?_ ?_ <;> first | (with_reducible rfl) | (simp; done)) | (with_reducible first | refine Blk.alloc ?_ _ | refine RowIn.alloc ?_ _ | refine Below.alloc ?_ ?_ _ | apply Blk.set' | apply Blk.far' | refine RowIn.far' ?_ ?_ _ | refine Below.far' ?_ ?_ _) | (exact (Eq.refl _ : (_ : List Value) = _)) | omega | go_size), Lib.hid (HB.out _ _ _ R1 (by repeat' (first | exact Below.refl _ _ | exact (Below.refl _ _).alloc (Nat.le_refl _) _ | refine Below.drew ?_)))⟩
  case round =>
    obtain ⟨j, p0, p1, q0, q1, hj, rfl, HP, zd_5, HR⟩ := hrel
    have ha := HL.out _ _ HR.out
    have kd_5 := zd_5.cell; have fd_5 := zd_5.frozen; have ld_5 := zd_5.lt
    by_cases hlt : j < n
    · obtain ⟨bl, ol, rfl, hbl, hcell⟩ := ha.at (by omega)
      obtain ⟨v, hv⟩ : ∃ v, nth xs j = v := ⟨_, rfl⟩
      have hvb := hx.nth (by decide) (by decide) j
      rw [hv] at hvb
      have c0 : wr.cell? ⟨bl, ol + j, none⟩ = some (.int .u32 v) := by rw [hcell j hlt, hv]
      obtain ⟨v, rfl⟩ := Int.eq_ofNat_of_zero_le hvb.1
      have hv32 : v < 4294967296 := by omega
      have CL := Lib.hid c0
      have HV : Hid ((nth xs j).toNat = v) := Lib.hid (by rw [hv]; rfl)
      have hbL := hbl
      clear c0 hcell hv
      have hpo : Dual.Ok ⟨p0, p1, q0, q1⟩ := by rw [HP.out]; exact stP_ok start_ok hx j
      have HPO := Lib.hid hpo
      clear hpo
      obtain ⟨x, HX⟩ : ∃ x, Hid (lenD ⟨p0, p1, q0, q1⟩ v = x) := ⟨_, Lib.hid rfl⟩
      have HXA : Hid (lenAt Cad.Code.start xs j = x) := Lib.hid (by rw [← HX.out, HP.out, ← HV.out]; rfl)
      have hC := HC.out j
      rw [HXA.out] at hC
      have HCJ := Lib.hid hC
      clear hC
      have hlt1 : (j : Int) < (n : Int) := by omega
      have cl0 := CL.out
      go_wp2_with fail
      refine (dlen_c _ HPO.out hv32 HX.out).mono ?_
      rintro e w6 ⟨rfl, b6⟩
      have zd_6 := zd_5.after b6
      have R6 := HB.out _ _ _ HR.out b6
      have s6 := b6.size
      have kd_6 := zd_6.cell; have fd_6 := zd_6.frozen; have ld_6 := zd_6.lt
      clear zd_5 kd_5 fd_5 ld_5 HR cl0
      go_wp2_with fail
      refine (HCJ.out w6 hlt R6).mono ?_
      rintro e w7 ⟨hk7, hres⟩
      have zd_7 := hk7 _ _ zd_6
      have kd_7 := zd_7.cell; have fd_7 := zd_7.frozen; have ld_7 := zd_7.lt
      clear zd_6 kd_6 fd_6 ld_6 hk7
      rcases hres with ⟨rfl, R7⟩ | ⟨rfl, Z7⟩
      · obtain ⟨u0, u1, v0, v1, hu⟩ := Dual.four (learn ⟨p0, p1, q0, q1⟩ v)
        have HU := Lib.hid hu
        clear hu
        go_wp2_with fail
        refine (dlearn_c _ HPO.out hv32 HU.out).mono ?_
        rintro e w8 ⟨rfl, b8⟩
        have zd_8 := zd_7.after b8
        have R8 := HB.out _ _ _ R7 b8
        have kd_8 := zd_8.cell; have fd_8 := zd_8.frozen; have ld_8 := zd_8.lt
        clear zd_7 kd_7 fd_7 ld_7 R7
        have HP2 : Hid ((⟨u0, u1, v0, v1⟩ : Dual) = stP Cad.Code.start xs (j + 1)) := Lib.hid (by rw [stP_next, ← HP.out, HV.out, HU.out])
        go_wp2
        go_roundg (n - (j + 1))
        case measure => omega
        case rel =>
          refine ⟨j + 1, u0, u1, v0, v1, by omega, by go_num, HP2, ?_, Lib.hid ?_⟩
          · first | (with_reducible exact Blk.drew (Blk.alloc (Blk.set4 zd_8) _)) | (with_reducible exact Blk.alloc (Blk.drew (Blk.set4 zd_8)) _) | (with_reducible exact Blk.set4 (Blk.alloc (Blk.drew zd_8) _)) | (with_reducible exact Blk.alloc (Blk.set4 zd_8) _) | (with_reducible exact Blk.set4 (Blk.alloc zd_8 _)) | exact Blk.set4 zd_8
          · exact HD.out _ _ _ _ 3 _ (HD.out _ _ _ _ 2 _ (HD.out _ _ _ _ 1 _ (HD.out _ _ _ _ 0 _ R8 s1 zd_8) s1 (zd_8.set 0 _)) s1 ((zd_8.set 0 _).set 1 _)) s1 (((zd_8.set 0 _).set 1 _).set 2 _)
      · go_wp2
        go_ret
        exact ⟨rfl, Z7⟩
    · obtain rfl : j = n := by omega
      go_wp2
      go_ret
      exact ⟨rfl, HZ.out _ HR.out⟩


set_option maxRecDepth 100000 in
set_option maxHeartbeats 2000000 in
theorem walk_fits (k0 k1 k2 : Value) (A : Option Addr) (n c : Nat) (xs : List Int) (w : World) (R : Nat → World → Prop) (Z : World → Prop) (hx : Within 0 4294967295 xs) (hn : n ≤ 4000) (hR : R 0 w)
    (hB : ∀ j w w', R j w → Below w.heap.size w w' → R j w') (hD : ∀ j w' g l i v, R j w' → w.heap.size ≤ g → Blk w' g 46 l → R j (w'.setCell ⟨g, i, none⟩ v)) (hL : ∀ j w, R j w → Row .u32 w A n xs) (hz : ∀ w, R n w → Z w)
    (hC : ∀ j w, j < n → R j w → Calls Try.prog 36 #[.int .i64 (lenAt Cad.Code.start xs j : Nat), k0, k1, k2] w fun e w' => (∀ g l, Blk w g 46 l → Blk w' g 46 l) ∧ ((e = .returned (.bool true) ∧ R (j + 1) w') ∨ (e = .returned (.bool false) ∧ Z w'))) :
    Calls Try.prog 29 #[.func (.func 36) #[] #[k0, k1, k2], .slice A n c] w fun e w' => e = .returned (.int .i64 0) ∧ Z w' := by
  have ht0 : decide ((4000 : Int) < (n : Int)) = false := decide_eq_false (by omega)
  have HB := Lib.hid hB; have HD := Lib.hid hD; have HL := Lib.hid hL; have HZ := Lib.hid hz; have HC := Lib.hid hC
  clear hB hD hL hz hC
  go_enter Try.func29, Try.ntmps29
  go_wp2_with fail
  refine (dstart_ok _).mono ?_
  rintro e w1 ⟨rfl, b1⟩
  have s1 := b1.size
  have R1 := HB.out _ _ _ hR b1
  clear hR b1
  go_wp2_with fail
  go_loopg [16] n (fun k v wr => ∃ (j p0 p1 q0 q1 : Nat), j + k = n ∧ v = .int .i64 (j : Nat) ∧ Hid ((⟨p0, p1, q0, q1⟩ : Dual) = stP Cad.Code.start xs j) ∧ Blk wr (w1.heap.size) 46 [.int .i64 (p0 : Int), .int .i64 (p1 : Int), .int .u64 (q0 : Int), .int .u64 (q1 : Int)] ∧ Hid (R j wr))
  case atStart =>
    exact ⟨0, 10, 10, 16384, 16384, by omega, rfl, Lib.hid rfl, by repeat' (first | (with_reducible first | assumption | exact Below.refl _ _ | refine Blk.drewN ?_ _ | refine RowIn.drewN ?_ _ | refine below_drewN ?_ _ | refine Blk.drew ?_ | refine RowIn.drew ?_ | refine Below.drew ?_) | (with_reducible refine Blk.new' ?_ ?_ <;> first | (with_reducible rfl) | (simp; done)) | (with_reducible first | refine Blk.alloc ?_ _ | refine RowIn.alloc ?_ _ | refine Below.alloc ?_ ?_ _ | apply Blk.set' | apply Blk.far' | refine RowIn.far' ?_ ?_ _ | refine Below.far' ?_ ?_ _) | (exact (Eq.refl _ : (_ : List Value) = _)) | omega | go_size), Lib.hid (HB.out _ _ _ R1 (by repeat' (first | exact Below.refl _ _ | exact (Below.refl _ _).alloc (Nat.le_refl _) _ | refine Below.drew ?_)))⟩
  case round =>
    obtain ⟨j, p0, p1, q0, q1, hj, rfl, HP, zd_5, HR⟩ := hrel
    have ha := HL.out _ _ HR.out
    have kd_5 := zd_5.cell; have fd_5 := zd_5.frozen; have ld_5 := zd_5.lt
    by_cases hlt : j < n
    · obtain ⟨bl, ol, rfl, hbl, hcell⟩ := ha.at (by omega)
      obtain ⟨v, hv⟩ : ∃ v, nth xs j = v := ⟨_, rfl⟩
      have hvb := hx.nth (by decide) (by decide) j
      rw [hv] at hvb
      have c0 : wr.cell? ⟨bl, ol + j, none⟩ = some (.int .u32 v) := by rw [hcell j hlt, hv]
      obtain ⟨v, rfl⟩ := Int.eq_ofNat_of_zero_le hvb.1
      have hv32 : v < 4294967296 := by omega
      have CL := Lib.hid c0
      have HV : Hid ((nth xs j).toNat = v) := Lib.hid (by rw [hv]; rfl)
      have hbL := hbl
      clear c0 hcell hv
      have hpo : Dual.Ok ⟨p0, p1, q0, q1⟩ := by rw [HP.out]; exact stP_ok start_ok hx j
      have HPO := Lib.hid hpo
      clear hpo
      obtain ⟨x, HX⟩ : ∃ x, Hid (lenD ⟨p0, p1, q0, q1⟩ v = x) := ⟨_, Lib.hid rfl⟩
      have HXA : Hid (lenAt Cad.Code.start xs j = x) := Lib.hid (by rw [← HX.out, HP.out, ← HV.out]; rfl)
      have hC := HC.out j
      rw [HXA.out] at hC
      have HCJ := Lib.hid hC
      clear hC
      have hlt1 : (j : Int) < (n : Int) := by omega
      have cl0 := CL.out
      go_wp2_with fail
      refine (dlen_c _ HPO.out hv32 HX.out).mono ?_
      rintro e w6 ⟨rfl, b6⟩
      have zd_6 := zd_5.after b6
      have R6 := HB.out _ _ _ HR.out b6
      have s6 := b6.size
      have kd_6 := zd_6.cell; have fd_6 := zd_6.frozen; have ld_6 := zd_6.lt
      clear zd_5 kd_5 fd_5 ld_5 HR cl0
      go_wp2_with fail
      refine (HCJ.out w6 hlt R6).mono ?_
      rintro e w7 ⟨hk7, hres⟩
      have zd_7 := hk7 _ _ zd_6
      have kd_7 := zd_7.cell; have fd_7 := zd_7.frozen; have ld_7 := zd_7.lt
      clear zd_6 kd_6 fd_6 ld_6 hk7
      rcases hres with ⟨rfl, R7⟩ | ⟨rfl, Z7⟩
      · obtain ⟨u0, u1, v0, v1, hu⟩ := Dual.four (learn ⟨p0, p1, q0, q1⟩ v)
        have HU := Lib.hid hu
        clear hu
        go_wp2_with fail
        refine (dlearn_c _ HPO.out hv32 HU.out).mono ?_
        rintro e w8 ⟨rfl, b8⟩
        have zd_8 := zd_7.after b8
        have R8 := HB.out _ _ _ R7 b8
        have kd_8 := zd_8.cell; have fd_8 := zd_8.frozen; have ld_8 := zd_8.lt
        clear zd_7 kd_7 fd_7 ld_7 R7
        have HP2 : Hid ((⟨u0, u1, v0, v1⟩ : Dual) = stP Cad.Code.start xs (j + 1)) := Lib.hid (by rw [stP_next, ← HP.out, HV.out, HU.out])
        go_wp2
        go_roundg (n - (j + 1))
        case measure => omega
        case rel =>
          refine ⟨j + 1, u0, u1, v0, v1, by omega, by go_num, HP2, ?_, Lib.hid ?_⟩
          · first | (with_reducible exact Blk.drew (Blk.alloc (Blk.set4 zd_8) _)) | (with_reducible exact Blk.alloc (Blk.drew (Blk.set4 zd_8)) _) | (with_reducible exact Blk.set4 (Blk.alloc (Blk.drew zd_8) _)) | (with_reducible exact Blk.alloc (Blk.set4 zd_8) _) | (with_reducible exact Blk.set4 (Blk.alloc zd_8 _)) | exact Blk.set4 zd_8
          · exact HD.out _ _ _ _ 3 _ (HD.out _ _ _ _ 2 _ (HD.out _ _ _ _ 1 _ (HD.out _ _ _ _ 0 _ R8 s1 zd_8) s1 (zd_8.set 0 _)) s1 ((zd_8.set 0 _).set 1 _)) s1 (((zd_8.set 0 _).set 1 _).set 2 _)
      · go_wp2
        go_ret
        exact ⟨rfl, Z7⟩
    · obtain rfl : j = n := by omega
      go_wp2
      go_ret
      exact ⟨rfl, HZ.out _ HR.out⟩

theorem walk_each_many (k0 : Value) (A : Option Addr) (n c : Nat) (w : World) (hn : 4000 < n) :
    Calls Try.prog 29 #[.func (.func 30) #[] #[k0], .slice A n c] w fun e w' => e = .returned (.int .i64 4) ∧ Below w.heap.size w w' := by
  have ht0 : decide ((4000 : Int) < (n : Int)) = true := decide_eq_true (by omega)
  go_enter Try.func29, Try.ntmps29
  go_wp2
  go_ret
  exact ⟨rfl, by repeat' (first | (with_reducible first | assumption | exact Below.refl _ _ | refine Blk.drewN ?_ _ | refine RowIn.drewN ?_ _ | refine below_drewN ?_ _ | refine Blk.drew ?_ | refine RowIn.drew ?_ | refine Below.drew ?_) | (with_reducible refine Blk.new' ?_ ?_ <;> first | (with_reducible rfl) | (simp; done)) | (with_reducible first | refine Blk.alloc ?_ _ | refine RowIn.alloc ?_ _ | refine Below.alloc ?_ ?_ _ | apply Blk.set' | apply Blk.far' | refine RowIn.far' ?_ ?_ _ | refine Below.far' ?_ ?_ _) | (exact (Eq.refl _ : (_ : List Value) = _)) | omega | go_size)⟩

theorem walk_length_many (k0 : Value) (A : Option Addr) (n c : Nat) (w : World) (hn : 4000 < n) :
    Calls Try.prog 29 #[.func (.func 32) #[] #[k0], .slice A n c] w fun e w' => e = .returned (.int .i64 4) ∧ Below w.heap.size w w' := by
  have ht0 : decide ((4000 : Int) < (n : Int)) = true := decide_eq_true (by omega)
  go_enter Try.func29, Try.ntmps29
  go_wp2
  go_ret
  exact ⟨rfl, by repeat' (first | (with_reducible first | assumption | exact Below.refl _ _ | refine Blk.drewN ?_ _ | refine RowIn.drewN ?_ _ | refine below_drewN ?_ _ | refine Blk.drew ?_ | refine RowIn.drew ?_ | refine Below.drew ?_) | (with_reducible refine Blk.new' ?_ ?_ <;> first | (with_reducible rfl) | (simp; done)) | (with_reducible first | refine Blk.alloc ?_ _ | refine RowIn.alloc ?_ _ | refine Below.alloc ?_ ?_ _ | apply Blk.set' | apply Blk.far' | refine RowIn.far' ?_ ?_ _ | refine Below.far' ?_ ?_ _) | (exact (Eq.refl _ : (_ : List Value) = _)) | omega | go_size)⟩


theorem Blk.ne {w : World} {g g' : Nat} {t t' : TypeId} {l l' : List Value} (h : Blk w g t l) (h' : Blk w g' t' l') (ht : t ≠ t') : g ≠ g' := by
  intro e
  subst e
  unfold Blk at h h'
  rw [h] at h'
  injection h' with h'
  injection h' with _ h'
  exact ht h'
/-- Numbers and an error are returned. -/
def RetI (w : World) (l : List Int) (er : Int) (e : Ending) (w' : World) : Prop :=
  ∃ (A : Option Addr) (n c : Nat) (ys : List Int), e = .returned (.tuple #[.slice A n c, .int .i64 er]) ∧ (n ≤ c ∧ c ≤ 9223372036854775807) ∧ RowIn .i64 w' w.heap.size w'.heap.size A n ys ∧ Hid (ys = l) ∧ Below w.heap.size w w'

set_option maxRecDepth 100000 in
set_option maxHeartbeats 1000000 in
theorem teach_ok (A : Option Addr) (n c : Nat) (xs : List Int) (w : World) (ha : Row .u32 w A n xs) (hx : Within 0 4294967295 xs) (hn : n ≤ 4000) :
    Calls Try.prog 10 #[.slice A n c] w (RetI w (lens Cad.Code.start xs n) 0) := by
  have hmf : ∀ (fn : Fn) (first cap : Array Value) (w : World), (Instr.makeFunc fn first cap).run Try.prog w = .ok (.func fn first cap) w := fun _ _ _ _ => rfl
  go_enter Try.func10, Try.ntmps10
  go_wp2_with fail
  have hk := walk_each (.pointer (some ⟨w.heap.size, 0, none⟩)) A n c xs (w.alloc (.cells #[.slice none 0 0] 24))
    (fun j w' => ∃ B d, Blk w' w.heap.size 24 [.slice B j d] ∧ Own w' w.heap.size 3 .i64 B j d (lens Cad.Code.start xs j) ∧ Below w.heap.size w w')
    (fun w' => ∃ B d, Blk w' w.heap.size 24 [.slice B n d] ∧ Own w' w.heap.size 3 .i64 B n d (lens Cad.Code.start xs n) ∧ Below w.heap.size w w') hx hn
    ⟨none, 0, Blk.new w _ _, Own.nil _ _ _ _, (Below.refl _ _).alloc (Nat.le_refl _) _⟩
    (fun j w1 w2 ⟨B, d, h1, h2, h3⟩ hb => ⟨B, d, h1.after hb, h2.below hb (Nat.le_refl _), Below.after h3 hb h3.size⟩)
    (fun j w1 g l i v ⟨B, d, h1, h2, h3⟩ hg hk => ⟨B, d, h1.far' (Blk.ne h1 hk (by decide)) v, h2.far' (h2.ne_blk hk (by decide)) v, Below.far' h3 (by rw [World.size_alloc] at hg; omega) v⟩)
    (fun j w1 ⟨B, d, h1, h2, h3⟩ => ha.below h3)
    (fun w1 h => h)
    (fun j w1 hj ⟨B, d, h1, h2, h3⟩ => by
      refine (each1_ok w.heap.size w.heap.size j d _ B _ w1 h1 h2 h3.size (by omega)).mono ?_
      rintro e w2 ⟨B2, d2, rfl, k1, k2, fr⟩
      refine ⟨fun g l hgl => hgl.frm fr (fun h => h.elim (fun h => Blk.ne h1 hgl (by decide) h.symm) (fun h => h2.ne_blk hgl (by decide) h)), .inl ⟨rfl, B2, d2, k1, by rw [lens_next]; exact k2, ?_⟩⟩
      exact h3.trans (fr.below h3.size (fun k hk h => h.elim (fun h => by omega) (fun h => absurd (h2.block k h).1 (by omega)))))
  refine hk.mono ?_
  rintro e w2 ⟨rfl, B, d, z1, own, bb⟩
  clear hk
  have k1 := z1.cell; have f1 := z1.frozen; have l1 := z1.lt
  have hcap := own.rowC.2
  go_wp2
  refine bodyPost_ret (v := .tuple #[.slice B n d, .int .i64 0]) (by simp [results, Try.results10, go_sem, k1, l1, f1]) rfl ?_
  exact ⟨B, n, d, _, rfl, hcap, own.rowIn, Lib.hid rfl, bb⟩

set_option maxHeartbeats 400000 in
theorem teach_many (A : Option Addr) (n c : Nat) (w : World) (hn : 4000 < n) :
    Calls Try.prog 10 #[.slice A n c] w (RetI w [] 4) := by
  have hmf : ∀ (fn : Fn) (first cap : Array Value) (w : World), (Instr.makeFunc fn first cap).run Try.prog w = .ok (.func fn first cap) w := fun _ _ _ _ => rfl
  go_enter Try.func10, Try.ntmps10
  go_wp2_with fail
  refine (walk_each_many _ A n c _ hn).mono ?_
  rintro e w2 ⟨rfl, b2⟩
  have z1 := (Blk.new w 24 [.slice none 0 0]).after b2
  have k1 := z1.cell; have f1 := z1.frozen; have l1 := z1.lt
  go_wp2
  refine bodyPost_ret (v := .tuple #[.slice none 0 0, .int .i64 4]) (by simp [results, Try.results10, go_sem, k1, l1, f1]) rfl ?_
  exact ⟨none, 0, 0, [], rfl, ⟨Nat.le_refl _, Nat.zero_le _⟩, RowIn.nil, Lib.hid rfl, Below.after ((Below.refl _ _).alloc (Nat.le_refl _) _) b2 (by rw [World.size_alloc]; omega)⟩

set_option maxRecDepth 100000 in
set_option maxHeartbeats 1000000 in
theorem tlen_ok (A : Option Addr) (n c : Nat) (xs : List Int) (w : World) (ha : Row .u32 w A n xs) (hx : Within 0 4294967295 xs) (hn : n ≤ 4000) :
    Calls Try.prog 12 #[.slice A n c] w fun e w' => e = .returned (.tuple #[.int .i64 ((lenP Cad.Code.start xs n : Nat) : Int), .int .i64 0]) ∧ Below w.heap.size w w' := by
  have hmf : ∀ (fn : Fn) (first cap : Array Value) (w : World), (Instr.makeFunc fn first cap).run Try.prog w = .ok (.func fn first cap) w := fun _ _ _ _ => rfl
  obtain ⟨L, HL⟩ : ∃ L, Hid (L = lenP Cad.Code.start xs n) := ⟨_, Lib.hid rfl⟩
  rw [← HL.out]
  go_enter Try.func12, Try.ntmps12
  go_wp2_with fail
  have hk := walk_length (.pointer (some ⟨w.heap.size, 0, none⟩)) A n c xs (w.alloc (.cells #[.int .i64 0] 3))
    (fun j w' => Blk w' w.heap.size 3 [.int .i64 ((lenP Cad.Code.start xs j : Nat) : Int)] ∧ Below w.heap.size w w')
    (fun w' => Blk w' w.heap.size 3 [.int .i64 ((lenP Cad.Code.start xs n : Nat) : Int)] ∧ Below w.heap.size w w') hx hn
    ⟨Blk.new w _ _, (Below.refl _ _).alloc (Nat.le_refl _) _⟩
    (fun j w1 w2 ⟨h1, h3⟩ hb => ⟨h1.after hb, Below.after h3 hb h3.size⟩)
    (fun j w1 g l i v ⟨h1, h3⟩ hg hk => ⟨h1.far' (Blk.ne h1 hk (by decide)) v, Below.far' h3 (by rw [World.size_alloc] at hg; omega) v⟩)
    (fun j w1 ⟨h1, h3⟩ => ha.below h3)
    (fun w1 h => h)
    (fun j w1 hj ⟨h1, h3⟩ => by
      refine (length1_ok w.heap.size _ _ w1 h1 (by have := (lenP_le start_ok hx j).2; omega) (by have := (lenAt_le start_ok hx j).2; omega)).mono ?_
      rintro e w2 ⟨rfl, k1, fr⟩
      refine ⟨fun g l hgl => hgl.frm fr (fun h => Blk.ne h1 hgl (by decide) h.symm), .inl ⟨rfl, by rw [lenP_step]; exact k1, ?_⟩⟩
      exact h3.trans (fr.below h3.size (fun k hk h => by omega)))
  refine hk.mono ?_
  rintro e w2 ⟨rfl, z1, bb⟩
  clear hk
  rw [← HL.out] at z1
  have k1 := z1.cell; have f1 := z1.frozen; have l1 := z1.lt
  go_wp2
  refine bodyPost_ret (v := .tuple #[.int .i64 (L : Int), .int .i64 0]) (by simp [results, Try.results12, go_sem, k1, l1, f1]) rfl ?_
  exact ⟨rfl, bb⟩
set_option maxHeartbeats 400000 in
theorem tlen_many (A : Option Addr) (n c : Nat) (w : World) (hn : 4000 < n) :
    Calls Try.prog 12 #[.slice A n c] w fun e w' => e = .returned (.tuple #[.int .i64 0, .int .i64 4]) ∧ Below w.heap.size w w' := by
  have hmf : ∀ (fn : Fn) (first cap : Array Value) (w : World), (Instr.makeFunc fn first cap).run Try.prog w = .ok (.func fn first cap) w := fun _ _ _ _ => rfl
  go_enter Try.func12, Try.ntmps12
  go_wp2_with fail
  refine (walk_length_many _ A n c _ hn).mono ?_
  rintro e w2 ⟨rfl, b2⟩
  have z1 := (Blk.new w 3 [.int .i64 0]).after b2
  have k1 := z1.cell; have f1 := z1.frozen; have l1 := z1.lt
  go_wp2
  refine bodyPost_ret (v := .tuple #[.int .i64 0, .int .i64 4]) (by simp [results, Try.results12, go_sem, k1, l1, f1]) rfl ?_
  exact ⟨rfl, Below.after ((Below.refl _ _).alloc (Nat.le_refl _) _) b2 (by rw [World.size_alloc]; omega)⟩


set_option maxHeartbeats 400000 in
theorem tbsize_ok (n q : Nat) (w : World) (h : n ≤ 330000) (hq : sizeB n = q) :
    Calls Try.prog 34 #[.int .i64 (n : Int)] w fun e w' => e = .returned (.tuple #[.int .i64 (q : Int), .int .i64 0]) ∧ w' = w := by
  unfold sizeB at hq
  have t1 : decide ((n : Int) < 0) = false := decide_eq_false (by omega)
  have t2 : decide ((330000 : Int) < (n : Int)) = false := decide_eq_false (by omega)
  have h1 : ((n : Int) + 7) / 8 + 4 = (q : Int) := by omega
  have hq2 : q ≤ 50000 := by omega
  go_enter Try.func34, Try.ntmps34
  go_wp2
  go_ret2
  exact ⟨by rw [← h1]; rfl, rfl⟩

set_option maxHeartbeats 400000 in
theorem fits1_ok (gs gb gc s x b k : Nat) (w : World) (hs : Blk w gs 3 [.int .i64 (s : Int)]) (hb : Blk w gb 3 [.int .i64 (b : Int)]) (hc : Blk w gc 3 [.int .i64 (k : Int)]) (h1 : gs ≠ gb) (h2 : gs ≠ gc) (h3 : gb ≠ gc) (hsx : s + x ≤ 330000) (hk : k ≤ 100000) :
    Calls Try.prog 36 #[.int .i64 (x : Int), .pointer (some ⟨gs, 0, none⟩), .pointer (some ⟨gb, 0, none⟩), .pointer (some ⟨gc, 0, none⟩)] w fun e w' => Frm (fun k => k = gs ∨ k = gc) w w' ∧ Blk w' gs 3 [.int .i64 ((s + x : Nat) : Int)] ∧ Blk w' gb 3 [.int .i64 (b : Int)] ∧
      ((e = .returned (.bool true) ∧ sizeB (s + x) ≤ b ∧ Blk w' gc 3 [.int .i64 ((k + 1 : Nat) : Int)]) ∨ (e = .returned (.bool false) ∧ b < sizeB (s + x) ∧ Blk w' gc 3 [.int .i64 (k : Int)])) := by
  have ks := hs.cell; have fs := hs.frozen; have ls := hs.lt
  have kb := hb.cell; have fb := hb.frozen; have lb := hb.lt
  have kc := hc.cell; have fc := hc.frozen; have lc := hc.lt
  obtain ⟨y, HY⟩ : ∃ y, Hid (y = s + x) := ⟨_, Lib.hid rfl⟩
  have hy : (s : Int) + (x : Int) = (y : Int) := by rw [HY.out]; omega
  have hy2 : y ≤ 330000 := by rw [HY.out]; exact hsx
  obtain ⟨q, HQ⟩ : ∃ q, Hid (sizeB y = q) := ⟨_, Lib.hid rfl⟩
  rw [← HY.out, HQ.out]
  have hne : gs ≠ gc := h2
  by_cases hbig : b < q
  · have t1 : decide ((b : Int) < (q : Int)) = true := decide_eq_true (by omega)
    go_enter Try.func36, Try.ntmps36
    go_wp2_with fail
    have zs := Blk.set' (i := 0) (u := .int .i64 (y : Int)) (l := [.int .i64 (y : Int)]) hs rfl
    have zb := Blk.far' (i := 0) hb (Ne.symm h1) (.int .i64 (y : Int))
    have zc := Blk.far' (i := 0) hc (Ne.symm h2) (.int .i64 (y : Int))
    have ks2 := zs.cell; have fs2 := zs.frozen; have ls2 := zs.lt
    have kb2 := zb.cell; have fb2 := zb.frozen; have lb2 := zb.lt
    refine (tbsize_ok y q _ hy2 HQ.out).mono ?_
    rintro e _ ⟨rfl, rfl⟩
    go_wp2
    go_ret
    exact ⟨(Frm.refl _ _).setCell (p := ⟨gs, _, none⟩) (fun _ => Or.inl rfl) _, zs, zb, .inr ⟨rfl, hbig, zc⟩⟩
  · have t1 : decide ((b : Int) < (q : Int)) = false := decide_eq_false (by omega)
    go_enter Try.func36, Try.ntmps36
    go_wp2_with fail
    have zs := Blk.set' (i := 0) (u := .int .i64 (y : Int)) (l := [.int .i64 (y : Int)]) hs rfl
    have zb := Blk.far' (i := 0) hb (Ne.symm h1) (.int .i64 (y : Int))
    have zc := Blk.far' (i := 0) hc (Ne.symm h2) (.int .i64 (y : Int))
    have ks2 := zs.cell; have fs2 := zs.frozen; have ls2 := zs.lt
    have kb2 := zb.cell; have fb2 := zb.frozen; have lb2 := zb.lt
    have kc2 := zc.cell; have fc2 := zc.frozen; have lc2 := zc.lt
    refine (tbsize_ok y q _ hy2 HQ.out).mono ?_
    rintro e _ ⟨rfl, rfl⟩
    go_wp2
    go_ret
    refine ⟨((Frm.refl _ _).setCell (p := ⟨gs, _, none⟩) (fun _ => Or.inl rfl) _).setCell (p := ⟨gc, _, none⟩) (fun _ => Or.inr rfl) _, Blk.far' zs h2 _, Blk.far' zb h3 _, .inl ⟨rfl, by omega, Blk.set' zc (by simp)⟩⟩

set_option maxRecDepth 100000 in
set_option maxHeartbeats 1000000 in
theorem tfits_ok (A : Option Addr) (n c : Nat) (xs : List Int) (b : Nat) (w : World) (ha : Row .u32 w A n xs) (hx : Within 0 4294967295 xs) (hn : n ≤ 4000) (hb4 : 4 ≤ b) :
    Calls Try.prog 20 #[.slice A n c, .int .i64 (b : Int)] w fun e w' => e = .returned (.tuple #[.int .i64 ((fitsAt Cad.Code.start xs b 0 n : Nat) : Int), .int .i64 0]) ∧ Below w.heap.size w w' := by
  have hmf : ∀ (fn : Fn) (first cap : Array Value) (w : World), (Instr.makeFunc fn first cap).run Try.prog w = .ok (.func fn first cap) w := fun _ _ _ _ => rfl
  have ht0 : decide ((4000 : Int) < (n : Int)) = false := decide_eq_false (by omega)
  have ht1 : decide ((b : Int) < 4) = false := decide_eq_false (by omega)
  obtain ⟨G, HG⟩ : ∃ G, Hid (G = fitsAt Cad.Code.start xs b 0 n) := ⟨_, Lib.hid rfl⟩
  rw [← HG.out]
  go_enter Try.func20, Try.ntmps20
  go_wp2_with fail
  have hk := walk_fits (.pointer (some ⟨w.heap.size + 1 + 1, 0, none⟩)) (.pointer (some ⟨w.heap.size, 0, none⟩)) (.pointer (some ⟨w.heap.size + 1, 0, none⟩)) A n c xs (((w.alloc (.cells #[.int .i64 (b : Int)] 3)).alloc (.cells #[.int .i64 0] 3)).alloc (.cells #[.int .i64 0] 3))
    (fun j w' => Blk w' (w.heap.size + 1 + 1) 3 [.int .i64 ((lenP Cad.Code.start xs j : Nat) : Int)] ∧ Blk w' w.heap.size 3 [.int .i64 (b : Int)] ∧ Blk w' (w.heap.size + 1) 3 [.int .i64 (j : Int)] ∧ j ≤ n ∧ G = fitsAt Cad.Code.start xs b j (n - j) ∧ Below w.heap.size w w')
    (fun w' => Blk w' (w.heap.size + 1) 3 [.int .i64 (G : Int)] ∧ Below w.heap.size w w') hx hn
    ⟨by rw [lenP_zero]; repeat' (first | (with_reducible first | assumption | exact Below.refl _ _ | refine Blk.drewN ?_ _ | refine RowIn.drewN ?_ _ | refine below_drewN ?_ _ | refine Blk.drew ?_ | refine RowIn.drew ?_ | refine Below.drew ?_) | (with_reducible refine Blk.new' ?_ ?_ <;> first | (with_reducible rfl) | (simp; done)) | (with_reducible first | refine Blk.alloc ?_ _ | refine RowIn.alloc ?_ _ | refine Below.alloc ?_ ?_ _ | apply Blk.set' | apply Blk.far' | refine RowIn.far' ?_ ?_ _ | refine Below.far' ?_ ?_ _) | (exact (Eq.refl _ : (_ : List Value) = _)) | omega | go_size), by repeat' (first | (with_reducible first | assumption | exact Below.refl _ _ | refine Blk.drewN ?_ _ | refine RowIn.drewN ?_ _ | refine below_drewN ?_ _ | refine Blk.drew ?_ | refine RowIn.drew ?_ | refine Below.drew ?_) | (with_reducible refine Blk.new' ?_ ?_ <;> first | (with_reducible rfl) | (simp; done)) | (with_reducible first | refine Blk.alloc ?_ _ | refine RowIn.alloc ?_ _ | refine Below.alloc ?_ ?_ _ | apply Blk.set' | apply Blk.far' | refine RowIn.far' ?_ ?_ _ | refine Below.far' ?_ ?_ _) | (exact (Eq.refl _ : (_ : List Value) = _)) | omega | go_size), by repeat' (first | (with_reducible first | assumption | exact Below.refl _ _ | refine Blk.drewN ?_ _ | refine RowIn.drewN ?_ _ | refine below_drewN ?_ _ | refine Blk.drew ?_ | refine RowIn.drew ?_ | refine Below.drew ?_) | (with_reducible refine Blk.new' ?_ ?_ <;> first | (with_reducible rfl) | (simp; done)) | (with_reducible first | refine Blk.alloc ?_ _ | refine RowIn.alloc ?_ _ | refine Below.alloc ?_ ?_ _ | apply Blk.set' | apply Blk.far' | refine RowIn.far' ?_ ?_ _ | refine Below.far' ?_ ?_ _) | (exact (Eq.refl _ : (_ : List Value) = _)) | omega | go_size), by omega, HG.out, by repeat' (first | (with_reducible first | assumption | exact Below.refl _ _ | refine Blk.drewN ?_ _ | refine RowIn.drewN ?_ _ | refine below_drewN ?_ _ | refine Blk.drew ?_ | refine RowIn.drew ?_ | refine Below.drew ?_) | (with_reducible refine Blk.new' ?_ ?_ <;> first | (with_reducible rfl) | (simp; done)) | (with_reducible first | refine Blk.alloc ?_ _ | refine RowIn.alloc ?_ _ | refine Below.alloc ?_ ?_ _ | apply Blk.set' | apply Blk.far' | refine RowIn.far' ?_ ?_ _ | refine Below.far' ?_ ?_ _) | (exact (Eq.refl _ : (_ : List Value) = _)) | omega | go_size)⟩
    (fun j w1 w2 ⟨h1, h2, h3, hj, hg, h4⟩ hb => ⟨h1.after hb, h2.after hb, h3.after hb, hj, hg, Below.after h4 hb h4.size⟩)
    (fun j w1 g l i v ⟨h1, h2, h3, hj, hg, h4⟩ hgg hk => ⟨h1.far' (Blk.ne h1 hk (by decide)) v, h2.far' (Blk.ne h2 hk (by decide)) v, h3.far' (Blk.ne h3 hk (by decide)) v, hj, hg, Below.far' h4 (by simp only [World.size_alloc] at hgg; omega) v⟩)
    (fun j w1 ⟨h1, h2, h3, hj, hg, h4⟩ => ha.below h4)
    (fun w1 ⟨h1, h2, h3, hj, hg, h4⟩ => ⟨by rw [hg, Nat.sub_self, fitsAt_zero]; exact h3, h4⟩)
    (fun j w1 hj ⟨h1, h2, h3, _, hg, h4⟩ => by
      refine (fits1_ok (w.heap.size + 1 + 1) w.heap.size (w.heap.size + 1) _ _ b j w1 h1 h2 h3 (by omega) (by omega) (by omega) (by rw [← lenP_step]; have := (lenP_le start_ok hx (j + 1)).2; omega) (by omega)).mono ?_
      rintro e w2 ⟨fr, k1, k2, hres⟩
      have h5 : Below w.heap.size w w2 := h4.trans (fr.below h4.size (fun k hk h => by omega))
      refine ⟨fun g l hgl => hgl.frm fr (fun h => h.elim (fun h => Blk.ne h1 hgl (by decide) h.symm) (fun h => Blk.ne h3 hgl (by decide) h.symm)), ?_⟩
      rw [← lenP_step] at k1 hres
      rcases hres with ⟨rfl, hle, k3⟩ | ⟨rfl, hlt, k3⟩
      · exact .inl ⟨rfl, k1, k2, k3, hj, by rw [hg, show n - j = (n - (j + 1)) + 1 by omega, fitsAt_go (by omega)], h5⟩
      · exact .inr ⟨rfl, by rw [hg, show n - j = (n - (j + 1)) + 1 by omega, fitsAt_stop hlt]; exact k3, h5⟩)
  refine hk.mono ?_
  rintro e w2 ⟨rfl, z1, bb⟩
  clear hk
  have k1 := z1.cell; have f1 := z1.frozen; have l1 := z1.lt
  go_wp2
  refine bodyPost_ret (v := .tuple #[.int .i64 (G : Int), .int .i64 0]) (by simp [results, Try.results20, go_sem, k1, l1, f1]) rfl ?_
  exact ⟨rfl, bb⟩
theorem tfits_many (A : Option Addr) (n c : Nat) (b : Int) (w : World) (hn : 4000 < n) :
    Calls Try.prog 20 #[.slice A n c, .int .i64 b] w fun e w' => e = .returned (.tuple #[.int .i64 0, .int .i64 4]) ∧ Below w.heap.size w w' := by
  have ht0 : decide ((4000 : Int) < (n : Int)) = true := decide_eq_true (by omega)
  go_enter Try.func20, Try.ntmps20
  go_wp2
  go_ret2
  exact ⟨rfl, (Below.refl _ _).alloc (Nat.le_refl _) _⟩
theorem tfits_few (A : Option Addr) (n c : Nat) (b : Int) (w : World) (hn : n ≤ 4000) (hb : b < 4) :
    Calls Try.prog 20 #[.slice A n c, .int .i64 b] w fun e w' => e = .returned (.tuple #[.int .i64 0, .int .i64 2]) ∧ Below w.heap.size w w' := by
  have ht0 : decide ((4000 : Int) < (n : Int)) = false := decide_eq_false (by omega)
  have ht1 : decide (b < 4) = true := decide_eq_true (by omega)
  go_enter Try.func20, Try.ntmps20
  go_wp2
  go_ret2
  exact ⟨rfl, (Below.refl _ _).alloc (Nat.le_refl _) _⟩

set_option maxHeartbeats 400000 in
theorem tbytes_ok (A : Option Addr) (n c : Nat) (xs : List Int) (w : World) (ha : Row .u32 w A n xs) (hx : Within 0 4294967295 xs) (hn : n ≤ 4000) :
    Calls Try.prog 14 #[.slice A n c] w fun e w' => e = .returned (.tuple #[.int .i64 ((sizeB (lenP Cad.Code.start xs n) : Nat) : Int), .int .i64 0]) ∧ Below w.heap.size w w' := by
  have hl := lenP_le start_ok hx n
  go_enter Try.func14, Try.ntmps14
  go_wp2_with fail
  refine (tlen_ok A n c xs _ ha hx hn).mono ?_
  rintro e w1 ⟨rfl, b1⟩
  go_wp2_with fail
  refine (tbsize_ok (lenP Cad.Code.start xs n) _ _ (by omega) rfl).mono ?_
  rintro e _ ⟨rfl, rfl⟩
  go_wp2
  go_ret2
  exact ⟨rfl, b1⟩
theorem tbytes_many (A : Option Addr) (n c : Nat) (w : World) (hn : 4000 < n) :
    Calls Try.prog 14 #[.slice A n c] w fun e w' => e = .returned (.tuple #[.int .i64 0, .int .i64 4]) ∧ Below w.heap.size w w' := by
  go_enter Try.func14, Try.ntmps14
  go_wp2_with fail
  refine (tlen_many A n c _ hn).mono ?_
  rintro e w1 ⟨rfl, b1⟩
  go_wp2
  go_ret2
  exact ⟨rfl, b1⟩
set_option maxHeartbeats 400000 in
theorem tmost_ok (n : Int) (w : World) (h : ¬ (n < 0 ∨ 4000 < n)) :
    Calls Try.prog 18 #[.int .i64 n] w fun e w' => e = .returned (.tuple #[.int .i64 (81 * n), .int .i64 0]) ∧ w' = w := by
  have t1 : decide (n < 0) = false := decide_eq_false (by omega)
  have t2 : decide (4000 < n) = false := decide_eq_false (by omega)
  obtain ⟨m, rfl⟩ : ∃ m : Nat, n = (m : Int) := ⟨n.toNat, by omega⟩
  have hm : m ≤ 4000 := by omega
  go_enter Try.func18, Try.ntmps18
  go_wp2_with fail
  go_loopg [4, 12] m (fun k u v wr => ∃ (j z : Nat), j + k = m ∧ u = .int .i64 (z : Nat) ∧ v = .int .i64 (j : Nat) ∧ z = 81 * j ∧ wr = w)
  case atStart => exact ⟨0, 0, by omega, rfl, rfl, rfl, rfl⟩
  case round =>
    obtain ⟨j, z, hj, rfl, rfl, hz, rfl⟩ := hrel
    by_cases hlt : j < m
    · have hlt1 : (j : Int) < (m : Int) := by omega
      go_wp2_with fail
      go_roundg (m - (j + 1))
      case measure => omega
      case rel => exact ⟨j + 1, z + 81, by omega, by go_num, by go_num, by omega, rfl⟩
    · obtain rfl : j = m := by omega
      go_wp2
      go_ret2
      exact ⟨by rw [hz]; rfl, rfl⟩
theorem tmost_bad (n : Int) (w : World) (h : n < 0 ∨ 4000 < n) :
    Calls Try.prog 18 #[.int .i64 n] w fun e w' => e = .returned (.tuple #[.int .i64 0, .int .i64 2]) ∧ w' = w := by
  rcases h with h | h
  · have t1 : decide (n < 0) = true := decide_eq_true (by omega)
    go_enter Try.func18, Try.ntmps18
    go_wp2
    go_ret2
    exact ⟨rfl, rfl⟩
  · have t1 : decide (n < 0) = false := decide_eq_false (by omega)
    have t2 : decide (4000 < n) = true := decide_eq_true (by omega)
    go_enter Try.func18, Try.ntmps18
    go_wp2
    go_ret2
    exact ⟨rfl, rfl⟩


end Go.Proofs.Ytpohaikbbfochaa
