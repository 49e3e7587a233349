/-
  Texts joined (DualB, DualC, Str).
-/
import Derived.Test.YtpohaikbbfochaaDoorKit
import Derived.Lib.Bytes
import Derived.Test.YtpohaikbbfochaaDoorPk2
/-
  Contracts of learning.
-/
namespace Go.Proofs.YtpohaikbbfochaaDoor
open Go.RowKit Cad Cad.Bit Cad.Code
set_option linter.unusedVariables false
set_option linter.unusedSimpArgs false

theorem Frm.gset {a w : World} {g i : Nat} (h : Frm (fun k => k = g) a w) (u : Value) : Frm (fun k => k = g) a (w.setCell ⟨g, i, none⟩ u) := h.setCell (p := ⟨g, i, none⟩) (fun _ => rfl) u
theorem sum_wrap {s n d : Nat} (hs : s ≤ 68719476735) (hn : n < 4294967296) (hd : d = s / 16) : IntKind.u64.wrap ((s : Int) + IntKind.u64.wrap ((n : Int) - (d : Int))) = ((sumOf s n : Nat) : Int) := by
  unfold sumOf
  rw [IntKind.wrap_u64, IntKind.wrap_u64]; omega


set_option maxRecDepth 100000 in
set_option maxHeartbeats 400000 in
theorem dpair0 (g k0 k1 s0 s1 n : Nat) (w : World) (hk : k0 ≤ 24) (hs : s0 ≤ 68719476735) (hn : n < 4294967296) (hb : Blk w g 62 [.int .i64 (k0 : Int), .int .i64 (k1 : Int), .int .u64 (s0 : Int), .int .u64 (s1 : Int)]) :
    Calls Tryd.prog 77 #[.pointer (some ⟨g, 0, none⟩), .pointer (some ⟨g, 2, none⟩), .int .u32 (n : Int)] w fun e w' => ∃ k' s' : Nat, e = .returned (.tuple #[]) ∧ Hid (s' = sumOf s0 n) ∧ Hid (k' = kOf k0 s') ∧ Blk w' g 62 [.int .i64 (k' : Int), .int .i64 (k1 : Int), .int .u64 (s' : Int), .int .u64 (s1 : Int)] ∧ Frm (fun k => k = g) w w' := by
  have kc := hb.cell; have kf := hb.frozen; have kl := hb.lt
  obtain ⟨d, hd⟩ : ∃ d, d = s0 / 16 := ⟨_, rfl⟩
  have hdi : (s0 : Int) / 16 = (d : Int) := by omega
  obtain ⟨t, ht⟩ : ∃ t, t = sumOf s0 n := ⟨_, rfl⟩
  have hw := sum_wrap hs hn hd
  rw [← ht] at hw
  have ht2 : t ≤ 73014444031 := by rw [ht]; unfold sumOf; omega
  have HT := Lib.hid ht
  obtain ⟨p, hp⟩ : ∃ p, p = 2 ^ k0 := ⟨_, rfl⟩
  have hp2 : p ≤ 16777216 := by rw [hp]; exact Nat.le_trans (Nat.pow_le_pow_right (by omega) hk) (by decide)
  have hpi : (2 : Int) ^ k0 = (p : Int) := by rw [hp, pow_cast]
  have HP := Lib.hid hp
  clear hd ht hp
  by_cases hk0 : 0 < k0
  · have t1 : decide (0 < (k0 : Int)) = true := decide_eq_true (by omega)
    by_cases h16 : t < 16 * p
    · have t2 : decide ((t : Int) < 16 * (p : Int)) = true := decide_eq_true (by omega)
      have HK : Hid (k0 - 1 = kOf k0 t) := Lib.hid (by unfold kOf; rw [if_pos ⟨by omega, by rw [← HP.out]; omega⟩])
      go_enter Tryd.func77, Tryd.ntmps77
      go_wp2_with fail
      go_region
      all_goals
        go_wp2_with fail
        go_region
        all_goals
          go_wp2_with fail
          go_end0
          refine ⟨k0 - 1, t, rfl, HT, HK, ?_, ?_⟩
          · have e : ((k0 - 1 : Nat) : Int) = (k0 : Int) - 1 := (by omega); rw [e]
            repeat' (first | (with_reducible assumption) | (with_reducible exact Below.refl _ _) | (with_reducible refine Blk.drewN ?_ _) | (with_reducible refine RowIn.drewN ?_ _) | (with_reducible refine below_drewN ?_ _) | (with_reducible refine Blk.drew ?_) | (with_reducible refine RowIn.drew ?_) | (with_reducible refine Below.drew ?_) | (with_reducible refine Blk.new' ?_ ?_ <;> first | (with_reducible rfl) | (simp; done)) | (with_reducible refine Blk.alloc ?_ _) | (with_reducible refine RowIn.alloc ?_ _) | (with_reducible refine Below.alloc ?_ ?_ _) | (with_reducible apply Blk.set') | (with_reducible apply Blk.far') | (with_reducible refine RowIn.far' ?_ ?_ _) | (with_reducible refine Below.far' ?_ ?_ _) | rfl | omega | go_size)
          · repeat' (first | (with_reducible exact Frm.refl _ _) | (with_reducible refine Frm.drew ?_) | (with_reducible refine Frm.gset ?_ _))
    · have t2 : decide ((t : Int) < 16 * (p : Int)) = false := decide_eq_false (by omega)
      by_cases h24 : k0 < 24
      · have t3 : decide ((k0 : Int) < 24) = true := decide_eq_true (by omega)
        by_cases h32 : 32 * p < t
        · have t4 : decide (32 * (p : Int) < (t : Int)) = true := decide_eq_true (by omega)
          have HK : Hid (k0 + 1 = kOf k0 t) := Lib.hid (by unfold kOf; rw [if_neg (by rw [← HP.out]; omega), if_pos ⟨by omega, by rw [← HP.out]; omega⟩])
          go_enter Tryd.func77, Tryd.ntmps77
          go_wp2_with fail
          go_region
          all_goals
            go_wp2_with fail
            go_region
            all_goals
              go_wp2_with fail
              go_region
              all_goals
                go_wp2_with fail
                go_end0
                refine ⟨k0 + 1, t, rfl, HT, HK, ?_, ?_⟩
                · have e : ((k0 + 1 : Nat) : Int) = (k0 : Int) + 1 := (by omega); rw [e]
                  repeat' (first | (with_reducible assumption) | (with_reducible exact Below.refl _ _) | (with_reducible refine Blk.drewN ?_ _) | (with_reducible refine RowIn.drewN ?_ _) | (with_reducible refine below_drewN ?_ _) | (with_reducible refine Blk.drew ?_) | (with_reducible refine RowIn.drew ?_) | (with_reducible refine Below.drew ?_) | (with_reducible refine Blk.new' ?_ ?_ <;> first | (with_reducible rfl) | (simp; done)) | (with_reducible refine Blk.alloc ?_ _) | (with_reducible refine RowIn.alloc ?_ _) | (with_reducible refine Below.alloc ?_ ?_ _) | (with_reducible apply Blk.set') | (with_reducible apply Blk.far') | (with_reducible refine RowIn.far' ?_ ?_ _) | (with_reducible refine Below.far' ?_ ?_ _) | rfl | omega | go_size)
                · repeat' (first | (with_reducible exact Frm.refl _ _) | (with_reducible refine Frm.drew ?_) | (with_reducible refine Frm.gset ?_ _))
        · have t4 : decide (32 * (p : Int) < (t : Int)) = false := decide_eq_false (by omega)
          have HK : Hid (k0 = kOf k0 t) := Lib.hid (by unfold kOf; rw [if_neg (by rw [← HP.out]; omega), if_neg (by rw [← HP.out]; omega)])
          go_enter Tryd.func77, Tryd.ntmps77
          go_wp2_with fail
          go_region
          all_goals
            go_wp2_with fail
            go_region
            all_goals
              go_wp2_with fail
              go_region
              all_goals
                go_wp2_with fail
                go_end0
                refine ⟨k0, t, rfl, HT, HK, ?_, ?_⟩
                · skip
                  repeat' (first | (with_reducible assumption) | (with_reducible exact Below.refl _ _) | (with_reducible refine Blk.drewN ?_ _) | (with_reducible refine RowIn.drewN ?_ _) | (with_reducible refine below_drewN ?_ _) | (with_reducible refine Blk.drew ?_) | (with_reducible refine RowIn.drew ?_) | (with_reducible refine Below.drew ?_) | (with_reducible refine Blk.new' ?_ ?_ <;> first | (with_reducible rfl) | (simp; done)) | (with_reducible refine Blk.alloc ?_ _) | (with_reducible refine RowIn.alloc ?_ _) | (with_reducible refine Below.alloc ?_ ?_ _) | (with_reducible apply Blk.set') | (with_reducible apply Blk.far') | (with_reducible refine RowIn.far' ?_ ?_ _) | (with_reducible refine Below.far' ?_ ?_ _) | rfl | omega | go_size)
                · repeat' (first | (with_reducible exact Frm.refl _ _) | (with_reducible refine Frm.drew ?_) | (with_reducible refine Frm.gset ?_ _))
      · have t3 : decide ((k0 : Int) < 24) = false := decide_eq_false (by omega)
        have HK : Hid (k0 = kOf k0 t) := Lib.hid (by unfold kOf; rw [if_neg (by rw [← HP.out]; omega), if_neg (by rw [← HP.out]; omega)])
        go_enter Tryd.func77, Tryd.ntmps77
        go_wp2_with fail
        go_region
        all_goals
          go_wp2_with fail
          go_region
          all_goals
            go_wp2_with fail
            go_region
            all_goals
              go_wp2_with fail
              go_end0
              refine ⟨k0, t, rfl, HT, HK, ?_, ?_⟩
              · skip
                repeat' (first | (with_reducible assumption) | (with_reducible exact Below.refl _ _) | (with_reducible refine Blk.drewN ?_ _) | (with_reducible refine RowIn.drewN ?_ _) | (with_reducible refine below_drewN ?_ _) | (with_reducible refine Blk.drew ?_) | (with_reducible refine RowIn.drew ?_) | (with_reducible refine Below.drew ?_) | (with_reducible refine Blk.new' ?_ ?_ <;> first | (with_reducible rfl) | (simp; done)) | (with_reducible refine Blk.alloc ?_ _) | (with_reducible refine RowIn.alloc ?_ _) | (with_reducible refine Below.alloc ?_ ?_ _) | (with_reducible apply Blk.set') | (with_reducible apply Blk.far') | (with_reducible refine RowIn.far' ?_ ?_ _) | (with_reducible refine Below.far' ?_ ?_ _) | rfl | omega | go_size)
              · repeat' (first | (with_reducible exact Frm.refl _ _) | (with_reducible refine Frm.drew ?_) | (with_reducible refine Frm.gset ?_ _))
  · have t1 : decide (0 < (k0 : Int)) = false := decide_eq_false (by omega)
    by_cases h24 : k0 < 24
    · have t3 : decide ((k0 : Int) < 24) = true := decide_eq_true (by omega)
      by_cases h32 : 32 * p < t
      · have t4 : decide (32 * (p : Int) < (t : Int)) = true := decide_eq_true (by omega)
        have HK : Hid (k0 + 1 = kOf k0 t) := Lib.hid (by unfold kOf; rw [if_neg (by rw [← HP.out]; omega), if_pos ⟨by omega, by rw [← HP.out]; omega⟩])
        go_enter Tryd.func77, Tryd.ntmps77
        go_wp2_with fail
        go_region
        all_goals
          go_wp2_with fail
          go_region
          all_goals
            go_wp2_with fail
            go_region
            all_goals
              go_wp2_with fail
              go_end0
              refine ⟨k0 + 1, t, rfl, HT, HK, ?_, ?_⟩
              · have e : ((k0 + 1 : Nat) : Int) = (k0 : Int) + 1 := (by omega); rw [e]
                repeat' (first | (with_reducible assumption) | (with_reducible exact Below.refl _ _) | (with_reducible refine Blk.drewN ?_ _) | (with_reducible refine RowIn.drewN ?_ _) | (with_reducible refine below_drewN ?_ _) | (with_reducible refine Blk.drew ?_) | (with_reducible refine RowIn.drew ?_) | (with_reducible refine Below.drew ?_) | (with_reducible refine Blk.new' ?_ ?_ <;> first | (with_reducible rfl) | (simp; done)) | (with_reducible refine Blk.alloc ?_ _) | (with_reducible refine RowIn.alloc ?_ _) | (with_reducible refine Below.alloc ?_ ?_ _) | (with_reducible apply Blk.set') | (with_reducible apply Blk.far') | (with_reducible refine RowIn.far' ?_ ?_ _) | (with_reducible refine Below.far' ?_ ?_ _) | rfl | omega | go_size)
              · repeat' (first | (with_reducible exact Frm.refl _ _) | (with_reducible refine Frm.drew ?_) | (with_reducible refine Frm.gset ?_ _))
      · have t4 : decide (32 * (p : Int) < (t : Int)) = false := decide_eq_false (by omega)
        have HK : Hid (k0 = kOf k0 t) := Lib.hid (by unfold kOf; rw [if_neg (by rw [← HP.out]; omega), if_neg (by rw [← HP.out]; omega)])
        go_enter Tryd.func77, Tryd.ntmps77
        go_wp2_with fail
        go_region
        all_goals
          go_wp2_with fail
          go_region
          all_goals
            go_wp2_with fail
            go_region
            all_goals
              go_wp2_with fail
              go_end0
              refine ⟨k0, t, rfl, HT, HK, ?_, ?_⟩
              · skip
                repeat' (first | (with_reducible assumption) | (with_reducible exact Below.refl _ _) | (with_reducible refine Blk.drewN ?_ _) | (with_reducible refine RowIn.drewN ?_ _) | (with_reducible refine below_drewN ?_ _) | (with_reducible refine Blk.drew ?_) | (with_reducible refine RowIn.drew ?_) | (with_reducible refine Below.drew ?_) | (with_reducible refine Blk.new' ?_ ?_ <;> first | (with_reducible rfl) | (simp; done)) | (with_reducible refine Blk.alloc ?_ _) | (with_reducible refine RowIn.alloc ?_ _) | (with_reducible refine Below.alloc ?_ ?_ _) | (with_reducible apply Blk.set') | (with_reducible apply Blk.far') | (with_reducible refine RowIn.far' ?_ ?_ _) | (with_reducible refine Below.far' ?_ ?_ _) | rfl | omega | go_size)
              · repeat' (first | (with_reducible exact Frm.refl _ _) | (with_reducible refine Frm.drew ?_) | (with_reducible refine Frm.gset ?_ _))
    · have t3 : decide ((k0 : Int) < 24) = false := decide_eq_false (by omega)
      have HK : Hid (k0 = kOf k0 t) := Lib.hid (by unfold kOf; rw [if_neg (by rw [← HP.out]; omega), if_neg (by rw [← HP.out]; omega)])
      go_enter Tryd.func77, Tryd.ntmps77
      go_wp2_with fail
      go_region
      all_goals
        go_wp2_with fail
        go_region
        all_goals
          go_wp2_with fail
          go_region
          all_goals
            go_wp2_with fail
            go_end0
            refine ⟨k0, t, rfl, HT, HK, ?_, ?_⟩
            · skip
              repeat' (first | (with_reducible assumption) | (with_reducible exact Below.refl _ _) | (with_reducible refine Blk.drewN ?_ _) | (with_reducible refine RowIn.drewN ?_ _) | (with_reducible refine below_drewN ?_ _) | (with_reducible refine Blk.drew ?_) | (with_reducible refine RowIn.drew ?_) | (with_reducible refine Below.drew ?_) | (with_reducible refine Blk.new' ?_ ?_ <;> first | (with_reducible rfl) | (simp; done)) | (with_reducible refine Blk.alloc ?_ _) | (with_reducible refine RowIn.alloc ?_ _) | (with_reducible refine Below.alloc ?_ ?_ _) | (with_reducible apply Blk.set') | (with_reducible apply Blk.far') | (with_reducible refine RowIn.far' ?_ ?_ _) | (with_reducible refine Below.far' ?_ ?_ _) | rfl | omega | go_size)
            · repeat' (first | (with_reducible exact Frm.refl _ _) | (with_reducible refine Frm.drew ?_) | (with_reducible refine Frm.gset ?_ _))


set_option maxRecDepth 100000 in
set_option maxHeartbeats 400000 in
theorem dpair1 (g k0 k1 s0 s1 n : Nat) (w : World) (hk : k1 ≤ 24) (hs : s1 ≤ 68719476735) (hn : n < 4294967296) (hb : Blk w g 62 [.int .i64 (k0 : Int), .int .i64 (k1 : Int), .int .u64 (s0 : Int), .int .u64 (s1 : Int)]) :
    Calls Tryd.prog 77 #[.pointer (some ⟨g, 1, none⟩), .pointer (some ⟨g, 3, none⟩), .int .u32 (n : Int)] w fun e w' => ∃ k' s' : Nat, e = .returned (.tuple #[]) ∧ Hid (s' = sumOf s1 n) ∧ Hid (k' = kOf k1 s') ∧ Blk w' g 62 [.int .i64 (k0 : Int), .int .i64 (k' : Int), .int .u64 (s0 : Int), .int .u64 (s' : Int)] ∧ Frm (fun k => k = g) w w' := by
  have kc := hb.cell; have kf := hb.frozen; have kl := hb.lt
  obtain ⟨d, hd⟩ : ∃ d, d = s1 / 16 := ⟨_, rfl⟩
  have hdi : (s1 : Int) / 16 = (d : Int) := by omega
  obtain ⟨t, ht⟩ : ∃ t, t = sumOf s1 n := ⟨_, rfl⟩
  have hw := sum_wrap hs hn hd
  rw [← ht] at hw
  have ht2 : t ≤ 73014444031 := by rw [ht]; unfold sumOf; omega
  have HT := Lib.hid ht
  obtain ⟨p, hp⟩ : ∃ p, p = 2 ^ k1 := ⟨_, rfl⟩
  have hp2 : p ≤ 16777216 := by rw [hp]; exact Nat.le_trans (Nat.pow_le_pow_right (by omega) hk) (by decide)
  have hpi : (2 : Int) ^ k1 = (p : Int) := by rw [hp, pow_cast]
  have HP := Lib.hid hp
  clear hd ht hp
  by_cases hk0 : 0 < k1
  · have t1 : decide (0 < (k1 : Int)) = true := decide_eq_true (by omega)
    by_cases h16 : t < 16 * p
    · have t2 : decide ((t : Int) < 16 * (p : Int)) = true := decide_eq_true (by omega)
      have HK : Hid (k1 - 1 = kOf k1 t) := Lib.hid (by unfold kOf; rw [if_pos ⟨by omega, by rw [← HP.out]; omega⟩])
      go_enter Tryd.func77, Tryd.ntmps77
      go_wp2_with fail
      go_region
      all_goals
        go_wp2_with fail
        go_region
        all_goals
          go_wp2_with fail
          go_end0
          refine ⟨k1 - 1, t, rfl, HT, HK, ?_, ?_⟩
          · have e : ((k1 - 1 : Nat) : Int) = (k1 : Int) - 1 := (by omega); rw [e]
            repeat' (first | (with_reducible assumption) | (with_reducible exact Below.refl _ _) | (with_reducible refine Blk.drewN ?_ _) | (with_reducible refine RowIn.drewN ?_ _) | (with_reducible refine below_drewN ?_ _) | (with_reducible refine Blk.drew ?_) | (with_reducible refine RowIn.drew ?_) | (with_reducible refine Below.drew ?_) | (with_reducible refine Blk.new' ?_ ?_ <;> first | (with_reducible rfl) | (simp; done)) | (with_reducible refine Blk.alloc ?_ _) | (with_reducible refine RowIn.alloc ?_ _) | (with_reducible refine Below.alloc ?_ ?_ _) | (with_reducible apply Blk.set') | (with_reducible apply Blk.far') | (with_reducible refine RowIn.far' ?_ ?_ _) | (with_reducible refine Below.far' ?_ ?_ _) | rfl | omega | go_size)
          · repeat' (first | (with_reducible exact Frm.refl _ _) | (with_reducible refine Frm.drew ?_) | (with_reducible refine Frm.gset ?_ _))
    · have t2 : decide ((t : Int) < 16 * (p : Int)) = false := decide_eq_false (by omega)
      by_cases h24 : k1 < 24
      · have t3 : decide ((k1 : Int) < 24) = true := decide_eq_true (by omega)
        by_cases h32 : 32 * p < t
        · have t4 : decide (32 * (p : Int) < (t : Int)) = true := decide_eq_true (by omega)
          have HK : Hid (k1 + 1 = kOf k1 t) := Lib.hid (by unfold kOf; rw [if_neg (by rw [← HP.out]; omega), if_pos ⟨by omega, by rw [← HP.out]; omega⟩])
          go_enter Tryd.func77, Tryd.ntmps77
          go_wp2_with fail
          go_region
          all_goals
            go_wp2_with fail
            go_region
            all_goals
              go_wp2_with fail
              go_region
              all_goals
                go_wp2_with fail
                go_end0
                refine ⟨k1 + 1, t, rfl, HT, HK, ?_, ?_⟩
                · have e : ((k1 + 1 : Nat) : Int) = (k1 : Int) + 1 := (by omega); rw [e]
                  repeat' (first | (with_reducible assumption) | (with_reducible exact Below.refl _ _) | (with_reducible refine Blk.drewN ?_ _) | (with_reducible refine RowIn.drewN ?_ _) | (with_reducible refine below_drewN ?_ _) | (with_reducible refine Blk.drew ?_) | (with_reducible refine RowIn.drew ?_) | (with_reducible refine Below.drew ?_) | (with_reducible refine Blk.new' ?_ ?_ <;> first | (with_reducible rfl) | (simp; done)) | (with_reducible refine Blk.alloc ?_ _) | (with_reducible refine RowIn.alloc ?_ _) | (with_reducible refine Below.alloc ?_ ?_ _) | (with_reducible apply Blk.set') | (with_reducible apply Blk.far') | (with_reducible refine RowIn.far' ?_ ?_ _) | (with_reducible refine Below.far' ?_ ?_ _) | rfl | omega | go_size)
                · repeat' (first | (with_reducible exact Frm.refl _ _) | (with_reducible refine Frm.drew ?_) | (with_reducible refine Frm.gset ?_ _))
        · have t4 : decide (32 * (p : Int) < (t : Int)) = false := decide_eq_false (by omega)
          have HK : Hid (k1 = kOf k1 t) := Lib.hid (by unfold kOf; rw [if_neg (by rw [← HP.out]; omega), if_neg (by rw [← HP.out]; omega)])
          go_enter Tryd.func77, Tryd.ntmps77
          go_wp2_with fail
          go_region
          all_goals
            go_wp2_with fail
            go_region
            all_goals
              go_wp2_with fail
              go_region
              all_goals
                go_wp2_with fail
                go_end0
                refine ⟨k1, t, rfl, HT, HK, ?_, ?_⟩
                · skip
                  repeat' (first | (with_reducible assumption) | (with_reducible exact Below.refl _ _) | (with_reducible refine Blk.drewN ?_ _) | (with_reducible refine RowIn.drewN ?_ _) | (with_reducible refine below_drewN ?_ _) | (with_reducible refine Blk.drew ?_) | (with_reducible refine RowIn.drew ?_) | (with_reducible refine Below.drew ?_) | (with_reducible refine Blk.new' ?_ ?_ <;> first | (with_reducible rfl) | (simp; done)) | (with_reducible refine Blk.alloc ?_ _) | (with_reducible refine RowIn.alloc ?_ _) | (with_reducible refine Below.alloc ?_ ?_ _) | (with_reducible apply Blk.set') | (with_reducible apply Blk.far') | (with_reducible refine RowIn.far' ?_ ?_ _) | (with_reducible refine Below.far' ?_ ?_ _) | rfl | omega | go_size)
                · repeat' (first | (with_reducible exact Frm.refl _ _) | (with_reducible refine Frm.drew ?_) | (with_reducible refine Frm.gset ?_ _))
      · have t3 : decide ((k1 : Int) < 24) = false := decide_eq_false (by omega)
        have HK : Hid (k1 = kOf k1 t) := Lib.hid (by unfold kOf; rw [if_neg (by rw [← HP.out]; omega), if_neg (by rw [← HP.out]; omega)])
        go_enter Tryd.func77, Tryd.ntmps77
        go_wp2_with fail
        go_region
        all_goals
          go_wp2_with fail
          go_region
          all_goals
            go_wp2_with fail
            go_region
            all_goals
              go_wp2_with fail
              go_end0
              refine ⟨k1, t, rfl, HT, HK, ?_, ?_⟩
              · skip
                repeat' (first | (with_reducible assumption) | (with_reducible exact Below.refl _ _) | (with_reducible refine Blk.drewN ?_ _) | (with_reducible refine RowIn.drewN ?_ _) | (with_reducible refine below_drewN ?_ _) | (with_reducible refine Blk.drew ?_) | (with_reducible refine RowIn.drew ?_) | (with_reducible refine Below.drew ?_) | (with_reducible refine Blk.new' ?_ ?_ <;> first | (with_reducible rfl) | (simp; done)) | (with_reducible refine Blk.alloc ?_ _) | (with_reducible refine RowIn.alloc ?_ _) | (with_reducible refine Below.alloc ?_ ?_ _) | (with_reducible apply Blk.set') | (with_reducible apply Blk.far') | (with_reducible refine RowIn.far' ?_ ?_ _) | (with_reducible refine Below.far' ?_ ?_ _) | rfl | omega | go_size)
              · repeat' (first | (with_reducible exact Frm.refl _ _) | (with_reducible refine Frm.drew ?_) | (with_reducible refine Frm.gset ?_ _))
  · have t1 : decide (0 < (k1 : Int)) = false := decide_eq_false (by omega)
    by_cases h24 : k1 < 24
    · have t3 : decide ((k1 : Int) < 24) = true := decide_eq_true (by omega)
      by_cases h32 : 32 * p < t
      · have t4 : decide (32 * (p : Int) < (t : Int)) = true := decide_eq_true (by omega)
        have HK : Hid (k1 + 1 = kOf k1 t) := Lib.hid (by unfold kOf; rw [if_neg (by rw [← HP.out]; omega), if_pos ⟨by omega, by rw [← HP.out]; omega⟩])
        go_enter Tryd.func77, Tryd.ntmps77
        go_wp2_with fail
        go_region
        all_goals
          go_wp2_with fail
          go_region
          all_goals
            go_wp2_with fail
            go_region
            all_goals
              go_wp2_with fail
              go_end0
              refine ⟨k1 + 1, t, rfl, HT, HK, ?_, ?_⟩
              · have e : ((k1 + 1 : Nat) : Int) = (k1 : Int) + 1 := (by omega); rw [e]
                repeat' (first | (with_reducible assumption) | (with_reducible exact Below.refl _ _) | (with_reducible refine Blk.drewN ?_ _) | (with_reducible refine RowIn.drewN ?_ _) | (with_reducible refine below_drewN ?_ _) | (with_reducible refine Blk.drew ?_) | (with_reducible refine RowIn.drew ?_) | (with_reducible refine Below.drew ?_) | (with_reducible refine Blk.new' ?_ ?_ <;> first | (with_reducible rfl) | (simp; done)) | (with_reducible refine Blk.alloc ?_ _) | (with_reducible refine RowIn.alloc ?_ _) | (with_reducible refine Below.alloc ?_ ?_ _) | (with_reducible apply Blk.set') | (with_reducible apply Blk.far') | (with_reducible refine RowIn.far' ?_ ?_ _) | (with_reducible refine Below.far' ?_ ?_ _) | rfl | omega | go_size)
              · repeat' (first | (with_reducible exact Frm.refl _ _) | (with_reducible refine Frm.drew ?_) | (with_reducible refine Frm.gset ?_ _))
      · have t4 : decide (32 * (p : Int) < (t : Int)) = false := decide_eq_false (by omega)
        have HK : Hid (k1 = kOf k1 t) := Lib.hid (by unfold kOf; rw [if_neg (by rw [← HP.out]; omega), if_neg (by rw [← HP.out]; omega)])
        go_enter Tryd.func77, Tryd.ntmps77
        go_wp2_with fail
        go_region
        all_goals
          go_wp2_with fail
          go_region
          all_goals
            go_wp2_with fail
            go_region
            all_goals
              go_wp2_with fail
              go_end0
              refine ⟨k1, t, rfl, HT, HK, ?_, ?_⟩
              · skip
                repeat' (first | (with_reducible assumption) | (with_reducible exact Below.refl _ _) | (with_reducible refine Blk.drewN ?_ _) | (with_reducible refine RowIn.drewN ?_ _) | (with_reducible refine below_drewN ?_ _) | (with_reducible refine Blk.drew ?_) | (with_reducible refine RowIn.drew ?_) | (with_reducible refine Below.drew ?_) | (with_reducible refine Blk.new' ?_ ?_ <;> first | (with_reducible rfl) | (simp; done)) | (with_reducible refine Blk.alloc ?_ _) | (with_reducible refine RowIn.alloc ?_ _) | (with_reducible refine Below.alloc ?_ ?_ _) | (with_reducible apply Blk.set') | (with_reducible apply Blk.far') | (with_reducible refine RowIn.far' ?_ ?_ _) | (with_reducible refine Below.far' ?_ ?_ _) | rfl | omega | go_size)
              · repeat' (first | (with_reducible exact Frm.refl _ _) | (with_reducible refine Frm.drew ?_) | (with_reducible refine Frm.gset ?_ _))
    · have t3 : decide ((k1 : Int) < 24) = false := decide_eq_false (by omega)
      have HK : Hid (k1 = kOf k1 t) := Lib.hid (by unfold kOf; rw [if_neg (by rw [← HP.out]; omega), if_neg (by rw [← HP.out]; omega)])
      go_enter Tryd.func77, Tryd.ntmps77
      go_wp2_with fail
      go_region
      all_goals
        go_wp2_with fail
        go_region
        all_goals
          go_wp2_with fail
          go_region
          all_goals
            go_wp2_with fail
            go_end0
            refine ⟨k1, t, rfl, HT, HK, ?_, ?_⟩
            · skip
              repeat' (first | (with_reducible assumption) | (with_reducible exact Below.refl _ _) | (with_reducible refine Blk.drewN ?_ _) | (with_reducible refine RowIn.drewN ?_ _) | (with_reducible refine below_drewN ?_ _) | (with_reducible refine Blk.drew ?_) | (with_reducible refine RowIn.drew ?_) | (with_reducible refine Below.drew ?_) | (with_reducible refine Blk.new' ?_ ?_ <;> first | (with_reducible rfl) | (simp; done)) | (with_reducible refine Blk.alloc ?_ _) | (with_reducible refine RowIn.alloc ?_ _) | (with_reducible refine Below.alloc ?_ ?_ _) | (with_reducible apply Blk.set') | (with_reducible apply Blk.far') | (with_reducible refine RowIn.far' ?_ ?_ _) | (with_reducible refine Below.far' ?_ ?_ _) | rfl | omega | go_size)
            · repeat' (first | (with_reducible exact Frm.refl _ _) | (with_reducible refine Frm.drew ?_) | (with_reducible refine Frm.gset ?_ _))


set_option maxRecDepth 100000 in
set_option maxHeartbeats 400000 in
theorem dlearn_any (g k0 k1 s0 s1 v : Nat) (w : World) (hd : Dual.Ok ⟨k0, k1, s0, s1⟩) (hv : v < 4294967296) (hb : Blk w g 62 [.int .i64 (k0 : Int), .int .i64 (k1 : Int), .int .u64 (s0 : Int), .int .u64 (s1 : Int)]) :
    Calls Tryd.prog 69 #[.pointer (some ⟨g, 0, none⟩), .int .u32 (v : Int)] w fun e w' => ∃ a0 a1 b0 b1 : Nat, e = .returned (.tuple #[]) ∧ Hid ((⟨a0, a1, b0, b1⟩ : Dual) = learn ⟨k0, k1, s0, s1⟩ v) ∧ Blk w' g 62 [.int .i64 (a0 : Int), .int .i64 (a1 : Int), .int .u64 (b0 : Int), .int .u64 (b1 : Int)] ∧ Frm (fun k => k = g) w w' := by
  obtain ⟨h0, h1, h2, h3⟩ := hd
  dsimp only at h0 h1 h2 h3
  have hmf : ∀ (fn : Fn) (first cap : Array Value) (w : World), (Instr.makeFunc fn first cap).run Tryd.prog w = .ok (.func fn first cap) w := fun _ _ _ _ => rfl
  have kc := hb.cell; have kf := hb.frozen; have kl := hb.lt

  by_cases h : v < 2 ^ k0
  · have HL : Hid (learn ⟨k0, k1, s0, s1⟩ v = ⟨kOf k0 (sumOf s0 v), k1, sumOf s0 v, s1⟩) := Lib.hid (by unfold learn; rw [if_pos h])
    go_enter Tryd.func69, Tryd.ntmps69
    go_wp2_with fail
    refine (dlevel_low k0 k1 s0 s1 v w h0 hv h).mono ?_
    rintro e w1 ⟨rfl, b1⟩
    have hb1 := hb.after b1
    have c1 := hb1.cell; have f1 := hb1.frozen; have l1 := hb1.lt
    go_wp2_with fail
    go_region_law (go_simp; go_at_call 77; refine (dpair0 g k0 k1 s0 s1 v _ h0 h2 hv hb1.drew).mono ?_
                   rintro e w2 ⟨k', s', rfl, HS, HK, hb2, fr2⟩)
    all_goals
      go_wp2
      go_end0
      refine ⟨k', k1, s', s1, rfl, ?_, hb2, (Frm.of_below b1 _).drew.trans fr2 (fun _ _ h => h)⟩
      rw [HL.out, ← HS.out, ← HK.out]; exact Lib.hid rfl
  · have HL : Hid (learn ⟨k0, k1, s0, s1⟩ v = ⟨kOf k0 (sumOf s0 v), kOf k1 (sumOf s1 (v - 2 ^ k0)), sumOf s0 v, sumOf s1 (v - 2 ^ k0)⟩) := Lib.hid (by unfold learn; rw [if_neg h])
    go_enter Tryd.func69, Tryd.ntmps69
    go_wp2_with fail
    refine (dlevel_high k0 k1 s0 s1 v w h0 hv h).mono ?_
    rintro e w1 ⟨y, rfl, HY, b1⟩
    have hy : y < 4294967296 := by rw [HY.out]; exact Nat.lt_of_le_of_lt (Nat.sub_le _ _) hv
    have hb1 := hb.after b1
    have c1 := hb1.cell; have f1 := hb1.frozen; have l1 := hb1.lt
    go_wp2_with fail
    go_region_law (go_simp; go_at_call 77; refine (dpair1 g k0 k1 s0 s1 y _ h1 h3 hy hb1.drew).mono ?_
                   rintro e w2 ⟨k', s', rfl, HS, HK, hb2, fr2⟩)
    all_goals
      have c2 := hb2.cell; have f2 := hb2.frozen; have l2 := hb2.lt
      go_wp2_with fail
      go_region_law (go_simp; go_at_call 77; refine (dpair0 g k0 k' s0 s' v _ h0 h2 hv hb2.drew).mono ?_
                     rintro e w3 ⟨k3, s3, rfl, HS3, HK3, hb3, fr3⟩)
      all_goals
        go_wp2
        go_end0
        refine ⟨k3, k', s3, s', rfl, ?_, hb3, ((Frm.of_below b1 _).drew.trans fr2 (fun _ _ h => h)).drew.trans fr3 (fun _ _ h => h)⟩
        rw [HL.out, ← HY.out, ← HS.out, ← HK.out, ← HS3.out, ← HK3.out]; exact Lib.hid rfl

theorem dcheck_ok (k0 k1 s0 s1 : Nat) (w : World) (hd : Dual.Ok ⟨k0, k1, s0, s1⟩) :
    Calls Tryd.prog 66 #[.agg #[.int .i64 (k0 : Int), .int .i64 (k1 : Int), .int .u64 (s0 : Int), .int .u64 (s1 : Int)]] w fun e w' => e = .returned (.int .i64 0) ∧ Below w.heap.size w w' :=
  (dcheck_any k0 k1 s0 s1 w (by omega) (by omega)).mono fun e w' h => ⟨by rw [h.1, if_pos (by obtain ⟨h0, h1, h2, h3⟩ := hd; dsimp only at h0 h1 h2 h3; unfold DOk; omega)], h.2⟩
theorem dcheck_bad (k0 k1 s0 s1 : Int) (w : World) (h2 : 0 ≤ s0) (h3 : 0 ≤ s1) (hd : ¬ DOk k0 k1 s0 s1) :
    Calls Tryd.prog 66 #[.agg #[.int .i64 (k0), .int .i64 (k1), .int .u64 (s0), .int .u64 (s1)]] w fun e w' => e = .returned (.int .i64 8) ∧ Below w.heap.size w w' :=
  (dcheck_any k0 k1 s0 s1 w h2 h3).mono fun e w' h => ⟨by rw [h.1, if_neg hd], h.2⟩
/-- Numbers that are a state are one. -/
theorem dok_dual {k0 k1 s0 s1 : Int} (h2 : 0 ≤ s0) (h3 : 0 ≤ s1) (hd : DOk k0 k1 s0 s1) : ∃ a b c d : Nat, k0 = a ∧ k1 = b ∧ s0 = c ∧ s1 = d ∧ Dual.Ok ⟨a, b, c, d⟩ := by
  obtain ⟨a1, a2, a3, a4⟩ := hd
  exact ⟨k0.toNat, k1.toNat, s0.toNat, s1.toNat, by omega, by omega, by omega, by omega, by show k0.toNat ≤ 24; omega, by show k1.toNat ≤ 24; omega, by show s0.toNat ≤ 68719476735; omega, by show s1.toNat ≤ 68719476735; omega⟩

set_option maxHeartbeats 400000 in
theorem dLearn_ok (p0 p1 q0 q1 v : Nat) (w : World) (hd : Dual.Ok ⟨p0, p1, q0, q1⟩) (hv : v < 4294967296) :
    Calls Tryd.prog 33 #[.agg #[.int .i64 (p0 : Int), .int .i64 (p1 : Int), .int .u64 (q0 : Int), .int .u64 (q1 : Int)], .int .u32 (v : Int)] w fun e w' => ∃ u0 u1 v0 v1 : Nat, e = .returned (.tuple #[.agg #[.int .i64 (u0 : Int), .int .i64 (u1 : Int), .int .u64 (v0 : Int), .int .u64 (v1 : Int)], .int .i64 0]) ∧ Hid ((⟨u0, u1, v0, v1⟩ : Dual) = learn ⟨p0, p1, q0, q1⟩ v) ∧ Below w.heap.size w w' := by

  go_enter Tryd.func33, Tryd.ntmps33
  go_wp2_with fail
  obtain ⟨hd0, hd1, hd2, hd3⟩ : p0 ≤ 24 ∧ p1 ≤ 24 ∧ q0 ≤ 68719476735 ∧ q1 ≤ 68719476735 := id hd
  refine (dcheck_ok p0 p1 q0 q1 _ hd).mono ?_
  rintro e w1 ⟨rfl, b1⟩
  have s1 := b1.size
  try simp only [World.size_alloc, World.size_setCell, World.size_drew, size_drewN] at s1
  obtain ⟨zd_1, zr_1, bb_1⟩ : Blk w1 (w.heap.size) 62 [.int .i64 (p0 : Int), .int .i64 (p1 : Int), .int .u64 (q0 : Int), .int .u64 (q1 : Int)] ∧ Blk w1 (w.heap.size + 1) 62 [.int .i64 0, .int .i64 0, .int .u64 0, .int .u64 0] ∧ Below w.heap.size w w1 := by
    refine ⟨?_, ?_, ?_⟩
    all_goals repeat' (first | (with_reducible assumption) | (with_reducible exact Below.refl _ _) | (with_reducible refine Blk.after ?_ b1) | (with_reducible refine RowIn.belowS ?_ b1) | (with_reducible refine Below.after ?_ b1 ?_) | (with_reducible refine Blk.drewN ?_ _) | (with_reducible refine RowIn.drewN ?_ _) | (with_reducible refine below_drewN ?_ _) | (with_reducible refine Blk.drew ?_) | (with_reducible refine RowIn.drew ?_) | (with_reducible refine Below.drew ?_) | (with_reducible refine Blk.new' ?_ ?_ <;> first | (with_reducible rfl) | (simp; done)) | (with_reducible refine Blk.alloc ?_ _) | (with_reducible refine RowIn.alloc ?_ _) | (with_reducible refine Below.alloc ?_ ?_ _) | (with_reducible apply Blk.set') | (with_reducible apply Blk.far') | (with_reducible refine RowIn.far' ?_ ?_ _) | (with_reducible refine Below.far' ?_ ?_ _) | rfl | omega | go_size)
  clear b1
  have kd_1 := zd_1.cell; have fd_1 := zd_1.frozen; have ld_1 := zd_1.lt
  have kr_1 := zr_1.cell; have fr_1 := zr_1.frozen; have lr_1 := zr_1.lt
  go_wp2_with fail
  refine (dlearn_any w.heap.size p0 p1 q0 q1 v w1 hd hv zd_1).mono ?_
  rintro e w2 ⟨u0, u1, v0, v1, rfl, HA, zd2, fr2⟩
  have zr2 := zr_1.frm fr2 (by omega)
  have kd2 := zd2.cell; have fd2 := zd2.frozen; have ld2 := zd2.lt; have kr2 := zr2.cell; have frr2 := zr2.frozen; have lr2 := zr2.lt
  have bb2 : Below w.heap.size w w2 := bb_1.trans (fr2.below bb_1.size (fun k hk h => by omega))
  clear zd_1 zr_1 kd_1 fd_1 ld_1 kr_1 fr_1 lr_1 bb_1
  go_wp2
  refine bodyPost_ret (v := .tuple #[.agg #[.int .i64 (u0 : Int), .int .i64 (u1 : Int), .int .u64 (v0 : Int), .int .u64 (v1 : Int)], .int .i64 0]) (by simp [results, Tryd.results33, go_sem, kr2, lr2]) rfl ?_
  refine ⟨u0, u1, v0, v1, rfl, HA, ?_⟩
  repeat' (first | (with_reducible assumption) | (with_reducible exact Below.refl _ _) | (with_reducible refine Blk.drewN ?_ _) | (with_reducible refine RowIn.drewN ?_ _) | (with_reducible refine below_drewN ?_ _) | (with_reducible refine Blk.drew ?_) | (with_reducible refine RowIn.drew ?_) | (with_reducible refine Below.drew ?_) | (with_reducible refine Blk.new' ?_ ?_ <;> first | (with_reducible rfl) | (simp; done)) | (with_reducible refine Blk.alloc ?_ _) | (with_reducible refine RowIn.alloc ?_ _) | (with_reducible refine Below.alloc ?_ ?_ _) | (with_reducible apply Blk.set') | (with_reducible apply Blk.far') | (with_reducible refine RowIn.far' ?_ ?_ _) | (with_reducible refine Below.far' ?_ ?_ _) | rfl | omega | go_size)


set_option maxHeartbeats 400000 in
theorem dLearn_bad (p0 p1 q0 q1 : Int) (h2 : 0 ≤ q0) (h3 : 0 ≤ q1) (v : Int) (w : World) (hd : ¬ DOk p0 p1 q0 q1) :
    Calls Tryd.prog 33 #[.agg #[.int .i64 p0, .int .i64 p1, .int .u64 q0, .int .u64 q1], .int .u32 v] w fun e w' => e = .returned (.tuple #[.agg #[.int .i64 0, .int .i64 0, .int .u64 0, .int .u64 0], .int .i64 8]) ∧ Below w.heap.size w w' := by
  go_enter Tryd.func33, Tryd.ntmps33
  go_wp2_with fail
  refine (dcheck_bad p0 p1 q0 q1 _ h2 h3 hd).mono ?_
  rintro e w1 ⟨rfl, b1⟩
  have s1 := b1.size
  try simp only [World.size_alloc, World.size_setCell, World.size_drew, size_drewN] at s1
  obtain ⟨zd_1, zr_1, bb_1⟩ : Blk w1 (w.heap.size) 62 [.int .i64 p0, .int .i64 p1, .int .u64 q0, .int .u64 q1] ∧ Blk w1 (w.heap.size + 1) 62 [.int .i64 0, .int .i64 0, .int .u64 0, .int .u64 0] ∧ Below w.heap.size w w1 := by
    refine ⟨?_, ?_, ?_⟩
    all_goals repeat' (first | (with_reducible assumption) | (with_reducible exact Below.refl _ _) | (with_reducible refine Blk.after ?_ b1) | (with_reducible refine RowIn.belowS ?_ b1) | (with_reducible refine Below.after ?_ b1 ?_) | (with_reducible refine Blk.drewN ?_ _) | (with_reducible refine RowIn.drewN ?_ _) | (with_reducible refine below_drewN ?_ _) | (with_reducible refine Blk.drew ?_) | (with_reducible refine RowIn.drew ?_) | (with_reducible refine Below.drew ?_) | (with_reducible refine Blk.new' ?_ ?_ <;> first | (with_reducible rfl) | (simp; done)) | (with_reducible refine Blk.alloc ?_ _) | (with_reducible refine RowIn.alloc ?_ _) | (with_reducible refine Below.alloc ?_ ?_ _) | (with_reducible apply Blk.set') | (with_reducible apply Blk.far') | (with_reducible refine RowIn.far' ?_ ?_ _) | (with_reducible refine Below.far' ?_ ?_ _) | rfl | omega | go_size)
  clear b1
  have kd_1 := zd_1.cell; have fd_1 := zd_1.frozen; have ld_1 := zd_1.lt
  have kr_1 := zr_1.cell; have fr_1 := zr_1.frozen; have lr_1 := zr_1.lt
  go_wp2
  refine bodyPost_ret (v := .tuple #[.agg #[.int .i64 0, .int .i64 0, .int .u64 0, .int .u64 0], .int .i64 8]) (by simp [results, Tryd.results33, go_sem, kr_1, lr_1]) rfl ?_
  refine ⟨rfl, ?_⟩
  repeat' (first | (with_reducible assumption) | (with_reducible exact Below.refl _ _) | (with_reducible refine Blk.drewN ?_ _) | (with_reducible refine RowIn.drewN ?_ _) | (with_reducible refine below_drewN ?_ _) | (with_reducible refine Blk.drew ?_) | (with_reducible refine RowIn.drew ?_) | (with_reducible refine Below.drew ?_) | (with_reducible refine Blk.new' ?_ ?_ <;> first | (with_reducible rfl) | (simp; done)) | (with_reducible refine Blk.alloc ?_ _) | (with_reducible refine RowIn.alloc ?_ _) | (with_reducible refine Below.alloc ?_ ?_ _) | (with_reducible apply Blk.set') | (with_reducible apply Blk.far') | (with_reducible refine RowIn.far' ?_ ?_ _) | (with_reducible refine Below.far' ?_ ?_ _) | rfl | omega | go_size)


set_option maxHeartbeats 400000 in
theorem dLength_bad (p0 p1 q0 q1 : Int) (h2 : 0 ≤ q0) (h3 : 0 ≤ q1) (v : Int) (w : World) (hd : ¬ DOk p0 p1 q0 q1) :
    Calls Tryd.prog 32 #[.agg #[.int .i64 p0, .int .i64 p1, .int .u64 q0, .int .u64 q1], .int .u32 v] w fun e w' => e = .returned (.tuple #[.int .i64 0, .int .i64 8]) ∧ Below w.heap.size w w' := by
  go_enter Tryd.func32, Tryd.ntmps32
  go_wp2_with fail
  refine (dcheck_bad p0 p1 q0 q1 _ h2 h3 hd).mono ?_
  rintro e w1 ⟨rfl, b1⟩
  have s1 := b1.size
  try simp only [World.size_alloc, World.size_setCell, World.size_drew, size_drewN] at s1
  obtain ⟨zd_1, bb_1⟩ : Blk w1 (w.heap.size) 62 [.int .i64 p0, .int .i64 p1, .int .u64 q0, .int .u64 q1] ∧ Below w.heap.size w w1 := by
    refine ⟨?_, ?_⟩
    all_goals repeat' (first | (with_reducible assumption) | (with_reducible exact Below.refl _ _) | (with_reducible refine Blk.after ?_ b1) | (with_reducible refine RowIn.belowS ?_ b1) | (with_reducible refine Below.after ?_ b1 ?_) | (with_reducible refine Blk.drewN ?_ _) | (with_reducible refine RowIn.drewN ?_ _) | (with_reducible refine below_drewN ?_ _) | (with_reducible refine Blk.drew ?_) | (with_reducible refine RowIn.drew ?_) | (with_reducible refine Below.drew ?_) | (with_reducible refine Blk.new' ?_ ?_ <;> first | (with_reducible rfl) | (simp; done)) | (with_reducible refine Blk.alloc ?_ _) | (with_reducible refine RowIn.alloc ?_ _) | (with_reducible refine Below.alloc ?_ ?_ _) | (with_reducible apply Blk.set') | (with_reducible apply Blk.far') | (with_reducible refine RowIn.far' ?_ ?_ _) | (with_reducible refine Below.far' ?_ ?_ _) | rfl | omega | go_size)
  clear b1
  have kd_1 := zd_1.cell; have fd_1 := zd_1.frozen; have ld_1 := zd_1.lt
  go_wp2
  go_ret2
  refine ⟨rfl, ?_⟩
  repeat' (first | (with_reducible assumption) | (with_reducible exact Below.refl _ _) | (with_reducible refine Blk.drewN ?_ _) | (with_reducible refine RowIn.drewN ?_ _) | (with_reducible refine below_drewN ?_ _) | (with_reducible refine Blk.drew ?_) | (with_reducible refine RowIn.drew ?_) | (with_reducible refine Below.drew ?_) | (with_reducible refine Blk.new' ?_ ?_ <;> first | (with_reducible rfl) | (simp; done)) | (with_reducible refine Blk.alloc ?_ _) | (with_reducible refine RowIn.alloc ?_ _) | (with_reducible refine Below.alloc ?_ ?_ _) | (with_reducible apply Blk.set') | (with_reducible apply Blk.far') | (with_reducible refine RowIn.far' ?_ ?_ _) | (with_reducible refine Below.far' ?_ ?_ _) | rfl | omega | go_size)


set_option maxRecDepth 100000 in
set_option maxHeartbeats 400000 in
theorem dLength_ok (p0 p1 q0 q1 v : Nat) (w : World) (hd : Dual.Ok ⟨p0, p1, q0, q1⟩) (hv : v < 4294967296) :
    Calls Tryd.prog 32 #[.agg #[.int .i64 (p0 : Int), .int .i64 (p1 : Int), .int .u64 (q0 : Int), .int .u64 (q1 : Int)], .int .u32 (v : Int)] w fun e w' => ∃ y : Nat, e = .returned (.tuple #[.int .i64 (y : Int), .int .i64 0]) ∧ Hid (y = lenD ⟨p0, p1, q0, q1⟩ v) ∧ Below w.heap.size w w' := by
  obtain ⟨hd0, hd1, hd2, hd3⟩ : p0 ≤ 24 ∧ p1 ≤ 24 ∧ q0 ≤ 68719476735 ∧ q1 ≤ 68719476735 := id hd
  by_cases h : v < 2 ^ p0
  · have HL : Hid (1 + p0 = lenD ⟨p0, p1, q0, q1⟩ v) := Lib.hid (by unfold lenD; rw [if_pos h])
    go_enter Tryd.func32, Tryd.ntmps32
    go_wp2_with fail
    refine (dcheck_ok p0 p1 q0 q1 _ hd).mono ?_
    rintro e w1 ⟨rfl, b1⟩
    have s1 := b1.size
    try simp only [World.size_alloc, World.size_setCell, World.size_drew, size_drewN] at s1
    obtain ⟨zd_1, bb_1⟩ : Blk w1 (w.heap.size) 62 [.int .i64 (p0 : Int), .int .i64 (p1 : Int), .int .u64 (q0 : Int), .int .u64 (q1 : Int)] ∧ Below w.heap.size w w1 := by
      refine ⟨?_, ?_⟩
      all_goals repeat' (first | (with_reducible assumption) | (with_reducible exact Below.refl _ _) | (with_reducible refine Blk.after ?_ b1) | (with_reducible refine RowIn.belowS ?_ b1) | (with_reducible refine Below.after ?_ b1 ?_) | (with_reducible refine Blk.drewN ?_ _) | (with_reducible refine RowIn.drewN ?_ _) | (with_reducible refine below_drewN ?_ _) | (with_reducible refine Blk.drew ?_) | (with_reducible refine RowIn.drew ?_) | (with_reducible refine Below.drew ?_) | (with_reducible refine Blk.new' ?_ ?_ <;> first | (with_reducible rfl) | (simp; done)) | (with_reducible refine Blk.alloc ?_ _) | (with_reducible refine RowIn.alloc ?_ _) | (with_reducible refine Below.alloc ?_ ?_ _) | (with_reducible apply Blk.set') | (with_reducible apply Blk.far') | (with_reducible refine RowIn.far' ?_ ?_ _) | (with_reducible refine Below.far' ?_ ?_ _) | rfl | omega | go_size)
    clear b1
    have kd_1 := zd_1.cell; have fd_1 := zd_1.frozen; have ld_1 := zd_1.lt
    go_wp2_with fail
    refine (dlevel_low p0 p1 q0 q1 v _ hd0 hv h).mono ?_
    rintro e w2 ⟨rfl, b2⟩
    have s2 := b2.size
    try simp only [World.size_alloc, World.size_setCell, World.size_drew, size_drewN] at s2
    obtain ⟨zd_2, bb_2⟩ : Blk w2 (w.heap.size) 62 [.int .i64 (p0 : Int), .int .i64 (p1 : Int), .int .u64 (q0 : Int), .int .u64 (q1 : Int)] ∧ Below w.heap.size w w2 := by
      refine ⟨?_, ?_⟩
      all_goals repeat' (first | (with_reducible assumption) | (with_reducible exact Below.refl _ _) | (with_reducible refine Blk.after ?_ b2) | (with_reducible refine RowIn.belowS ?_ b2) | (with_reducible refine Below.after ?_ b2 ?_) | (with_reducible refine Blk.drewN ?_ _) | (with_reducible refine RowIn.drewN ?_ _) | (with_reducible refine below_drewN ?_ _) | (with_reducible refine Blk.drew ?_) | (with_reducible refine RowIn.drew ?_) | (with_reducible refine Below.drew ?_) | (with_reducible refine Blk.new' ?_ ?_ <;> first | (with_reducible rfl) | (simp; done)) | (with_reducible refine Blk.alloc ?_ _) | (with_reducible refine RowIn.alloc ?_ _) | (with_reducible refine Below.alloc ?_ ?_ _) | (with_reducible apply Blk.set') | (with_reducible apply Blk.far') | (with_reducible refine RowIn.far' ?_ ?_ _) | (with_reducible refine Below.far' ?_ ?_ _) | rfl | omega | go_size)
    clear zd_1 bb_1 kd_1 fd_1 ld_1 b2
    have kd_2 := zd_2.cell; have fd_2 := zd_2.frozen; have ld_2 := zd_2.lt
    go_wp2
    go_ret2
    refine ⟨1 + p0, by go_num, HL, ?_⟩
    repeat' (first | (with_reducible assumption) | (with_reducible exact Below.refl _ _) | (with_reducible refine Blk.drewN ?_ _) | (with_reducible refine RowIn.drewN ?_ _) | (with_reducible refine below_drewN ?_ _) | (with_reducible refine Blk.drew ?_) | (with_reducible refine RowIn.drew ?_) | (with_reducible refine Below.drew ?_) | (with_reducible refine Blk.new' ?_ ?_ <;> first | (with_reducible rfl) | (simp; done)) | (with_reducible refine Blk.alloc ?_ _) | (with_reducible refine RowIn.alloc ?_ _) | (with_reducible refine Below.alloc ?_ ?_ _) | (with_reducible apply Blk.set') | (with_reducible apply Blk.far') | (with_reducible refine RowIn.far' ?_ ?_ _) | (with_reducible refine Below.far' ?_ ?_ _) | rfl | omega | go_size)
  · have HL : Hid (lenD ⟨p0, p1, q0, q1⟩ v = 1 + riceLen (v - 2 ^ p0) p1) := Lib.hid (by unfold lenD; rw [if_neg h])
    go_enter Tryd.func32, Tryd.ntmps32
    go_wp2_with fail
    refine (dcheck_ok p0 p1 q0 q1 _ hd).mono ?_
    rintro e w1 ⟨rfl, b1⟩
    have s1 := b1.size
    try simp only [World.size_alloc, World.size_setCell, World.size_drew, size_drewN] at s1
    obtain ⟨zd_1, bb_1⟩ : Blk w1 (w.heap.size) 62 [.int .i64 (p0 : Int), .int .i64 (p1 : Int), .int .u64 (q0 : Int), .int .u64 (q1 : Int)] ∧ Below w.heap.size w w1 := by
      refine ⟨?_, ?_⟩
      all_goals repeat' (first | (with_reducible assumption) | (with_reducible exact Below.refl _ _) | (with_reducible refine Blk.after ?_ b1) | (with_reducible refine RowIn.belowS ?_ b1) | (with_reducible refine Below.after ?_ b1 ?_) | (with_reducible refine Blk.drewN ?_ _) | (with_reducible refine RowIn.drewN ?_ _) | (with_reducible refine below_drewN ?_ _) | (with_reducible refine Blk.drew ?_) | (with_reducible refine RowIn.drew ?_) | (with_reducible refine Below.drew ?_) | (with_reducible refine Blk.new' ?_ ?_ <;> first | (with_reducible rfl) | (simp; done)) | (with_reducible refine Blk.alloc ?_ _) | (with_reducible refine RowIn.alloc ?_ _) | (with_reducible refine Below.alloc ?_ ?_ _) | (with_reducible apply Blk.set') | (with_reducible apply Blk.far') | (with_reducible refine RowIn.far' ?_ ?_ _) | (with_reducible refine Below.far' ?_ ?_ _) | rfl | omega | go_size)
    clear b1
    have kd_1 := zd_1.cell; have fd_1 := zd_1.frozen; have ld_1 := zd_1.lt
    go_wp2_with fail
    refine (dlevel_high p0 p1 q0 q1 v _ hd0 hv h).mono ?_
    rintro e w2 ⟨y, rfl, HY, b2⟩
    have s2 := b2.size
    try simp only [World.size_alloc, World.size_setCell, World.size_drew, size_drewN] at s2
    obtain ⟨zd_2, bb_2⟩ : Blk w2 (w.heap.size) 62 [.int .i64 (p0 : Int), .int .i64 (p1 : Int), .int .u64 (q0 : Int), .int .u64 (q1 : Int)] ∧ Below w.heap.size w w2 := by
      refine ⟨?_, ?_⟩
      all_goals repeat' (first | (with_reducible assumption) | (with_reducible exact Below.refl _ _) | (with_reducible refine Blk.after ?_ b2) | (with_reducible refine RowIn.belowS ?_ b2) | (with_reducible refine Below.after ?_ b2 ?_) | (with_reducible refine Blk.drewN ?_ _) | (with_reducible refine RowIn.drewN ?_ _) | (with_reducible refine below_drewN ?_ _) | (with_reducible refine Blk.drew ?_) | (with_reducible refine RowIn.drew ?_) | (with_reducible refine Below.drew ?_) | (with_reducible refine Blk.new' ?_ ?_ <;> first | (with_reducible rfl) | (simp; done)) | (with_reducible refine Blk.alloc ?_ _) | (with_reducible refine RowIn.alloc ?_ _) | (with_reducible refine Below.alloc ?_ ?_ _) | (with_reducible apply Blk.set') | (with_reducible apply Blk.far') | (with_reducible refine RowIn.far' ?_ ?_ _) | (with_reducible refine Below.far' ?_ ?_ _) | rfl | omega | go_size)
    clear zd_1 bb_1 kd_1 fd_1 ld_1 b2
    have kd_2 := zd_2.cell; have fd_2 := zd_2.frozen; have ld_2 := zd_2.lt
    have hy : y < 4294967296 := by rw [HY.out]; exact Nat.lt_of_le_of_lt (Nat.sub_le _ _) hv
    go_wp2_with fail
    refine (rlen_ok y p1 _ hd1 hy).mono ?_
    rintro e _ ⟨z, rfl, HZ, rfl⟩
    have hz : z ≤ 80 := by rw [HZ.out]; exact (rice_len_le _ _ hd1).2
    go_wp2_with fail
    try go_region
    all_goals
      go_wp2
      go_ret2
      refine ⟨1 + z, by go_num, ?_, ?_⟩
      · rw [HL.out, ← HY.out, ← HZ.out]; exact Lib.hid rfl
      · repeat' (first | (with_reducible assumption) | (with_reducible exact Below.refl _ _) | (with_reducible refine Blk.drewN ?_ _) | (with_reducible refine RowIn.drewN ?_ _) | (with_reducible refine below_drewN ?_ _) | (with_reducible refine Blk.drew ?_) | (with_reducible refine RowIn.drew ?_) | (with_reducible refine Below.drew ?_) | (with_reducible refine Blk.new' ?_ ?_ <;> first | (with_reducible rfl) | (simp; done)) | (with_reducible refine Blk.alloc ?_ _) | (with_reducible refine RowIn.alloc ?_ _) | (with_reducible refine Below.alloc ?_ ?_ _) | (with_reducible apply Blk.set') | (with_reducible apply Blk.far') | (with_reducible refine RowIn.far' ?_ ?_ _) | (with_reducible refine Below.far' ?_ ?_ _) | rfl | omega | go_size)


end Go.Proofs.YtpohaikbbfochaaDoor

/-
  Contracts of writing a code of two levels.
-/
namespace Go.Proofs.YtpohaikbbfochaaDoor
open Go.RowKit Cad Cad.Bit Cad.Code
set_option linter.unusedVariables false
set_option linter.unusedSimpArgs false


/-- Bits, a state and an error are returned. -/
def RetW (w : World) (l : List Bool) (d : Dual) (er : Int) (e : Ending) (w' : World) : Prop :=
  ∃ (A : Option Addr) (n c : Nat) (xs : List Bool) (u0 u1 v0 v1 : Nat), e = .returned (.tuple #[.agg #[.slice A n c, .int .i64 (xs.length : Nat)], .agg #[.int .i64 (u0 : Int), .int .i64 (u1 : Int), .int .u64 (v0 : Int), .int .u64 (v1 : Int)], .int .i64 er]) ∧ (n ≤ c ∧ c ≤ 9223372036854775807) ∧ RowIn .u8 w' w.heap.size w'.heap.size A n (pack xs) ∧ Hid (xs = l) ∧ Hid ((⟨u0, u1, v0, v1⟩ : Dual) = d) ∧ Below w.heap.size w w'
/-- The state that is none. -/
def dualZero : Dual := ⟨0, 0, 0, 0⟩
/-- What Write returns. -/
def dwR (bs : List Bool) (d : Dual) (v : Nat) : List Bool × Dual × Int := if 330000 < bs.length + lenD d v then ([], dualZero, 18) else (bs ++ codeD d v, learn d v, 0)

theorem RowIn.frm {k : IntKind} {S : Nat → Prop} {w w' : World} {lo hi : Nat} {A : Option Addr} {n : Nat} {xs : List Int} (h : RowIn k w lo hi A n xs) (hf : Frm S w w') (hs : ∀ j, lo ≤ j → j < hi → ¬ S j) : RowIn k w' lo hi A n xs :=
  h.keep fun p h1 h2 h3 => hf.cell h3 (hs _ h1 h2)

set_option maxRecDepth 100000 in
set_option maxHeartbeats 1000000 in
theorem dWrite_ret (A : Option Addr) (m c : Nat) (bs : List Bool) (p0 p1 q0 q1 v : Nat) (w : World) (ha : Row .u8 w A m (pack bs)) (hc : m ≤ c ∧ c ≤ 9223372036854775807) (hl : bs.length ≤ 330000) (hd : Dual.Ok ⟨p0, p1, q0, q1⟩) (hv : v < 4294967296) :
    Calls Tryd.prog 47 #[.agg #[.slice A m c, .int .i64 ((bs.length : Nat) : Int)], .agg #[.int .i64 (p0 : Int), .int .i64 (p1 : Int), .int .u64 (q0 : Int), .int .u64 (q1 : Int)], .int .u32 (v : Int)] w (RetW w (dwR bs ⟨p0, p1, q0, q1⟩ v).1 (dwR bs ⟨p0, p1, q0, q1⟩ v).2.1 (dwR bs ⟨p0, p1, q0, q1⟩ v).2.2) := by
  have hri := ha.rowIn
  obtain ⟨hd0, hd1, hd2, hd3⟩ : p0 ≤ 24 ∧ p1 ≤ 24 ∧ q0 ≤ 68719476735 ∧ q1 ≤ 68719476735 := id hd
  by_cases h : v < 2 ^ p0
  · have hlen : 1 ≤ lenD ⟨p0, p1, q0, q1⟩ v := by unfold lenD; split <;> omega
    by_cases h0 : 330000 < bs.length + 1
    · have HR : Hid (dwR bs ⟨p0, p1, q0, q1⟩ v = ([], dualZero, 18)) := by unfold dwR; rw [if_pos (by omega)]; exact Lib.hid rfl
      have HP : Hid (putR bs (0 : Int).toNat (1 : Int) = ([], 18)) := by unfold putR; rw [if_neg (by omega), if_neg (by decide), if_pos (by show 330000 < bs.length + 1; omega)]; exact Lib.hid rfl
      go_enter Tryd.func47, Tryd.ntmps47
      go_wp2_with fail
      refine (bcheck_ok A m c bs _ (by exact RowIn.row (lo := 0) (hi := w.heap.size) (by repeat' (first | (with_reducible assumption) | (with_reducible exact Below.refl _ _) | (with_reducible refine Blk.drewN ?_ _) | (with_reducible refine RowIn.drewN ?_ _) | (with_reducible refine below_drewN ?_ _) | (with_reducible refine Blk.drew ?_) | (with_reducible refine RowIn.drew ?_) | (with_reducible refine Below.drew ?_) | (with_reducible refine Blk.new' ?_ ?_ <;> first | (with_reducible rfl) | (simp; done)) | (with_reducible refine Blk.alloc ?_ _) | (with_reducible refine RowIn.alloc ?_ _) | (with_reducible refine Below.alloc ?_ ?_ _) | (with_reducible apply Blk.set') | (with_reducible apply Blk.far') | (with_reducible refine RowIn.far' ?_ ?_ _) | (with_reducible refine Below.far' ?_ ?_ _) | rfl | omega | go_size))) (by omega) hl).mono ?_
      rintro e w1 ⟨rfl, b1⟩
      have s1 := b1.size
      try simp only [World.size_alloc, World.size_setCell, World.size_drew, size_drewN] at s1
      obtain ⟨zb_1, zd_1, zr_1, zx_1, rb_1, bb_1⟩ : Blk w1 (w.heap.size) 26 [.slice A m c, .int .i64 ((bs.length : Nat) : Int)] ∧ Blk w1 (w.heap.size + 1) 62 [.int .i64 (p0 : Int), .int .i64 (p1 : Int), .int .u64 (q0 : Int), .int .u64 (q1 : Int)] ∧ Blk w1 (w.heap.size + 1 + 1) 26 [.slice none 0 0, .int .i64 0] ∧ Blk w1 (w.heap.size + 1 + 1 + 1) 62 [.int .i64 0, .int .i64 0, .int .u64 0, .int .u64 0] ∧ RowIn .u8 w1 (0) (w.heap.size) A m (pack bs) ∧ Below w.heap.size w w1 := by
        refine ⟨?_, ?_, ?_, ?_, ?_, ?_⟩
        all_goals repeat' (first | (with_reducible assumption) | (with_reducible exact Below.refl _ _) | (with_reducible refine Blk.after ?_ b1) | (with_reducible refine RowIn.belowS ?_ b1) | (with_reducible refine Below.after ?_ b1 ?_) | (with_reducible refine Blk.drewN ?_ _) | (with_reducible refine RowIn.drewN ?_ _) | (with_reducible refine below_drewN ?_ _) | (with_reducible refine Blk.drew ?_) | (with_reducible refine RowIn.drew ?_) | (with_reducible refine Below.drew ?_) | (with_reducible refine Blk.new' ?_ ?_ <;> first | (with_reducible rfl) | (simp; done)) | (with_reducible refine Blk.alloc ?_ _) | (with_reducible refine RowIn.alloc ?_ _) | (with_reducible refine Below.alloc ?_ ?_ _) | (with_reducible apply Blk.set') | (with_reducible apply Blk.far') | (with_reducible refine RowIn.far' ?_ ?_ _) | (with_reducible refine Below.far' ?_ ?_ _) | rfl | omega | go_size)
      clear b1
      have kb_1 := zb_1.cell; have fb_1 := zb_1.frozen; have lb_1 := zb_1.lt
      have kd_1 := zd_1.cell; have fd_1 := zd_1.frozen; have ld_1 := zd_1.lt
      have kr_1 := zr_1.cell; have fr_1 := zr_1.frozen; have lr_1 := zr_1.lt
      have kx_1 := zx_1.cell; have fx_1 := zx_1.frozen; have lx_1 := zx_1.lt
      go_wp2_with fail
      refine (dcheck_ok p0 p1 q0 q1 _ hd).mono ?_
      rintro e w2 ⟨rfl, b2⟩
      have s2 := b2.size
      try simp only [World.size_alloc, World.size_setCell, World.size_drew, size_drewN] at s2
      obtain ⟨zb_2, zd_2, zr_2, zx_2, rb_2, bb_2⟩ : Blk w2 (w.heap.size) 26 [.slice A m c, .int .i64 ((bs.length : Nat) : Int)] ∧ Blk w2 (w.heap.size + 1) 62 [.int .i64 (p0 : Int), .int .i64 (p1 : Int), .int .u64 (q0 : Int), .int .u64 (q1 : Int)] ∧ Blk w2 (w.heap.size + 1 + 1) 26 [.slice none 0 0, .int .i64 0] ∧ Blk w2 (w.heap.size + 1 + 1 + 1) 62 [.int .i64 0, .int .i64 0, .int .u64 0, .int .u64 0] ∧ RowIn .u8 w2 (0) (w.heap.size) A m (pack bs) ∧ Below w.heap.size w w2 := by
        refine ⟨?_, ?_, ?_, ?_, ?_, ?_⟩
        all_goals repeat' (first | (with_reducible assumption) | (with_reducible exact Below.refl _ _) | (with_reducible refine Blk.after ?_ b2) | (with_reducible refine RowIn.belowS ?_ b2) | (with_reducible refine Below.after ?_ b2 ?_) | (with_reducible refine Blk.drewN ?_ _) | (with_reducible refine RowIn.drewN ?_ _) | (with_reducible refine below_drewN ?_ _) | (with_reducible refine Blk.drew ?_) | (with_reducible refine RowIn.drew ?_) | (with_reducible refine Below.drew ?_) | (with_reducible refine Blk.new' ?_ ?_ <;> first | (with_reducible rfl) | (simp; done)) | (with_reducible refine Blk.alloc ?_ _) | (with_reducible refine RowIn.alloc ?_ _) | (with_reducible refine Below.alloc ?_ ?_ _) | (with_reducible apply Blk.set') | (with_reducible apply Blk.far') | (with_reducible refine RowIn.far' ?_ ?_ _) | (with_reducible refine Below.far' ?_ ?_ _) | rfl | omega | go_size)
      clear zb_1 zd_1 zr_1 zx_1 rb_1 bb_1 kb_1 fb_1 lb_1 kd_1 fd_1 ld_1 kr_1 fr_1 lr_1 kx_1 fx_1 lx_1 b2
      have kb_2 := zb_2.cell; have fb_2 := zb_2.frozen; have lb_2 := zb_2.lt
      have kd_2 := zd_2.cell; have fd_2 := zd_2.frozen; have ld_2 := zd_2.lt
      have kr_2 := zr_2.cell; have fr_2 := zr_2.frozen; have lr_2 := zr_2.lt
      have kx_2 := zx_2.cell; have fx_2 := zx_2.frozen; have lx_2 := zx_2.lt
      go_wp2_with fail
      refine (dlevel_low p0 p1 q0 q1 v _ hd0 hv h).mono ?_
      rintro e w3 ⟨rfl, b3⟩
      have s3 := b3.size
      try simp only [World.size_alloc, World.size_setCell, World.size_drew, size_drewN] at s3
      obtain ⟨zb_3, zd_3, zr_3, zx_3, rb_3, bb_3⟩ : Blk w3 (w.heap.size) 26 [.slice A m c, .int .i64 ((bs.length : Nat) : Int)] ∧ Blk w3 (w.heap.size + 1) 62 [.int .i64 (p0 : Int), .int .i64 (p1 : Int), .int .u64 (q0 : Int), .int .u64 (q1 : Int)] ∧ Blk w3 (w.heap.size + 1 + 1) 26 [.slice none 0 0, .int .i64 0] ∧ Blk w3 (w.heap.size + 1 + 1 + 1) 62 [.int .i64 0, .int .i64 0, .int .u64 0, .int .u64 0] ∧ RowIn .u8 w3 (0) (w.heap.size) A m (pack bs) ∧ Below w.heap.size w w3 := by
        refine ⟨?_, ?_, ?_, ?_, ?_, ?_⟩
        all_goals repeat' (first | (with_reducible assumption) | (with_reducible exact Below.refl _ _) | (with_reducible refine Blk.after ?_ b3) | (with_reducible refine RowIn.belowS ?_ b3) | (with_reducible refine Below.after ?_ b3 ?_) | (with_reducible refine Blk.drewN ?_ _) | (with_reducible refine RowIn.drewN ?_ _) | (with_reducible refine below_drewN ?_ _) | (with_reducible refine Blk.drew ?_) | (with_reducible refine RowIn.drew ?_) | (with_reducible refine Below.drew ?_) | (with_reducible refine Blk.new' ?_ ?_ <;> first | (with_reducible rfl) | (simp; done)) | (with_reducible refine Blk.alloc ?_ _) | (with_reducible refine RowIn.alloc ?_ _) | (with_reducible refine Below.alloc ?_ ?_ _) | (with_reducible apply Blk.set') | (with_reducible apply Blk.far') | (with_reducible refine RowIn.far' ?_ ?_ _) | (with_reducible refine Below.far' ?_ ?_ _) | rfl | omega | go_size)
      clear zb_2 zd_2 zr_2 zx_2 rb_2 bb_2 kb_2 fb_2 lb_2 kd_2 fd_2 ld_2 kr_2 fr_2 lr_2 kx_2 fx_2 lx_2 b3
      have kb_3 := zb_3.cell; have fb_3 := zb_3.frozen; have lb_3 := zb_3.lt
      have kd_3 := zd_3.cell; have fd_3 := zd_3.frozen; have ld_3 := zd_3.lt
      have kr_3 := zr_3.cell; have fr_3 := zr_3.frozen; have lr_3 := zr_3.lt
      have kx_3 := zx_3.cell; have fx_3 := zx_3.frozen; have lx_3 := zx_3.lt
      have hw := bput_ret A m c bs (0 : Int) (1 : Int) w3 rb_3.row hc hl (by omega) (by omega)
      rw [HP.out] at hw
      replace hw := Lib.hid hw
      go_wp2_with fail
      refine (hw.out).mono ?_
      rintro e w4 ⟨Az, mz, cz, xz, rfl, hcz, rz, HXz, b4⟩
      replace rz := rz.mono (lo' := w3.heap.size + 0) (by go_size) (Nat.le_refl _)
      have s4 := b4.size
      try simp only [World.size_alloc, World.size_setCell, World.size_drew, size_drewN] at s4
      obtain ⟨zb_4, zd_4, zr_4, zx_4, rb_4, rz_4, bb_4⟩ : Blk w4 (w.heap.size) 26 [.slice A m c, .int .i64 ((bs.length : Nat) : Int)] ∧ Blk w4 (w.heap.size + 1) 62 [.int .i64 (p0 : Int), .int .i64 (p1 : Int), .int .u64 (q0 : Int), .int .u64 (q1 : Int)] ∧ Blk w4 (w.heap.size + 1 + 1) 26 [.slice none 0 0, .int .i64 0] ∧ Blk w4 (w.heap.size + 1 + 1 + 1) 62 [.int .i64 0, .int .i64 0, .int .u64 0, .int .u64 0] ∧ RowIn .u8 w4 (0) (w.heap.size) A m (pack bs) ∧ RowIn .u8 w4 (w3.heap.size + 0) (w4.heap.size) Az mz (pack xz) ∧ Below w.heap.size w w4 := by
        refine ⟨?_, ?_, ?_, ?_, ?_, ?_, ?_⟩
        all_goals repeat' (first | (with_reducible assumption) | (with_reducible exact Below.refl _ _) | (with_reducible refine Blk.after ?_ b4) | (with_reducible refine RowIn.belowS ?_ b4) | (with_reducible refine Below.after ?_ b4 ?_) | (with_reducible refine Blk.drewN ?_ _) | (with_reducible refine RowIn.drewN ?_ _) | (with_reducible refine below_drewN ?_ _) | (with_reducible refine Blk.drew ?_) | (with_reducible refine RowIn.drew ?_) | (with_reducible refine Below.drew ?_) | (with_reducible refine Blk.new' ?_ ?_ <;> first | (with_reducible rfl) | (simp; done)) | (with_reducible refine Blk.alloc ?_ _) | (with_reducible refine RowIn.alloc ?_ _) | (with_reducible refine Below.alloc ?_ ?_ _) | (with_reducible apply Blk.set') | (with_reducible apply Blk.far') | (with_reducible refine RowIn.far' ?_ ?_ _) | (with_reducible refine Below.far' ?_ ?_ _) | rfl | omega | go_size)
      clear zb_3 zd_3 zr_3 zx_3 rb_3 bb_3 kb_3 fb_3 lb_3 kd_3 fd_3 ld_3 kr_3 fr_3 lr_3 kx_3 fx_3 lx_3 b4
      have kb_4 := zb_4.cell; have fb_4 := zb_4.frozen; have lb_4 := zb_4.lt
      have kd_4 := zd_4.cell; have fd_4 := zd_4.frozen; have ld_4 := zd_4.lt
      have kr_4 := zr_4.cell; have fr_4 := zr_4.frozen; have lr_4 := zr_4.lt
      have kx_4 := zx_4.cell; have fx_4 := zx_4.frozen; have lx_4 := zx_4.lt
      clear rz
      clear hw
      go_wp2
      refine bodyPost_ret (v := .tuple #[.agg #[.slice none 0 0, .int .i64 0], .agg #[.int .i64 0, .int .i64 0, .int .u64 0, .int .u64 0], .int .i64 18]) (by simp [results, Tryd.results47, go_sem, kr_4, lr_4, kx_4, lx_4]) rfl ?_
      rw [HR.out]
      refine ⟨none, 0, 0, [], 0, 0, 0, 0, rfl, ⟨Nat.le_refl _, Nat.zero_le _⟩, RowIn.nil, Lib.hid rfl, Lib.hid rfl, ?_⟩
      repeat' (first | (with_reducible assumption) | (with_reducible exact Below.refl _ _) | (with_reducible refine Blk.drewN ?_ _) | (with_reducible refine RowIn.drewN ?_ _) | (with_reducible refine below_drewN ?_ _) | (with_reducible refine Blk.drew ?_) | (with_reducible refine RowIn.drew ?_) | (with_reducible refine Below.drew ?_) | (with_reducible refine Blk.new' ?_ ?_ <;> first | (with_reducible rfl) | (simp; done)) | (with_reducible refine Blk.alloc ?_ _) | (with_reducible refine RowIn.alloc ?_ _) | (with_reducible refine Below.alloc ?_ ?_ _) | (with_reducible apply Blk.set') | (with_reducible apply Blk.far') | (with_reducible refine RowIn.far' ?_ ?_ _) | (with_reducible refine Below.far' ?_ ?_ _) | rfl | omega | go_size)
    have HP : Hid (putR bs (0 : Int).toNat (1 : Int) = (bs ++ [false], 0)) := by unfold putR; rw [if_neg (by omega), if_neg (by decide), if_neg (by show ¬ 330000 < bs.length + 1; omega)]; exact Lib.hid rfl
    have HLD : Hid (lenD ⟨p0, p1, q0, q1⟩ v = 1 + p0) := Lib.hid (by unfold lenD; rw [if_pos h])
    have HCD : Hid (codeD ⟨p0, p1, q0, q1⟩ v = false :: lowBits v p0) := Lib.hid (by unfold codeD; rw [if_pos h])
    by_cases h5 : 330000 < bs.length + 1 + p0
    · have HR : Hid (dwR bs ⟨p0, p1, q0, q1⟩ v = ([], dualZero, 18)) := by unfold dwR; rw [if_pos (by have := HLD.out; omega)]; exact Lib.hid rfl
      have H2 := Lib.hid h5
      go_enter Tryd.func47, Tryd.ntmps47
      go_wp2_with fail
      refine (bcheck_ok A m c bs _ (by exact RowIn.row (lo := 0) (hi := w.heap.size) (by repeat' (first | (with_reducible assumption) | (with_reducible exact Below.refl _ _) | (with_reducible refine Blk.drewN ?_ _) | (with_reducible refine RowIn.drewN ?_ _) | (with_reducible refine below_drewN ?_ _) | (with_reducible refine Blk.drew ?_) | (with_reducible refine RowIn.drew ?_) | (with_reducible refine Below.drew ?_) | (with_reducible refine Blk.new' ?_ ?_ <;> first | (with_reducible rfl) | (simp; done)) | (with_reducible refine Blk.alloc ?_ _) | (with_reducible refine RowIn.alloc ?_ _) | (with_reducible refine Below.alloc ?_ ?_ _) | (with_reducible apply Blk.set') | (with_reducible apply Blk.far') | (with_reducible refine RowIn.far' ?_ ?_ _) | (with_reducible refine Below.far' ?_ ?_ _) | rfl | omega | go_size))) (by omega) hl).mono ?_
      rintro e w1 ⟨rfl, b1⟩
      have s1 := b1.size
      try simp only [World.size_alloc, World.size_setCell, World.size_drew, size_drewN] at s1
      obtain ⟨zb_1, zd_1, zr_1, zx_1, rb_1, bb_1⟩ : Blk w1 (w.heap.size) 26 [.slice A m c, .int .i64 ((bs.length : Nat) : Int)] ∧ Blk w1 (w.heap.size + 1) 62 [.int .i64 (p0 : Int), .int .i64 (p1 : Int), .int .u64 (q0 : Int), .int .u64 (q1 : Int)] ∧ Blk w1 (w.heap.size + 1 + 1) 26 [.slice none 0 0, .int .i64 0] ∧ Blk w1 (w.heap.size + 1 + 1 + 1) 62 [.int .i64 0, .int .i64 0, .int .u64 0, .int .u64 0] ∧ RowIn .u8 w1 (0) (w.heap.size) A m (pack bs) ∧ Below w.heap.size w w1 := by
        refine ⟨?_, ?_, ?_, ?_, ?_, ?_⟩
        all_goals repeat' (first | (with_reducible assumption) | (with_reducible exact Below.refl _ _) | (with_reducible refine Blk.after ?_ b1) | (with_reducible refine RowIn.belowS ?_ b1) | (with_reducible refine Below.after ?_ b1 ?_) | (with_reducible refine Blk.drewN ?_ _) | (with_reducible refine RowIn.drewN ?_ _) | (with_reducible refine below_drewN ?_ _) | (with_reducible refine Blk.drew ?_) | (with_reducible refine RowIn.drew ?_) | (with_reducible refine Below.drew ?_) | (with_reducible refine Blk.new' ?_ ?_ <;> first | (with_reducible rfl) | (simp; done)) | (with_reducible refine Blk.alloc ?_ _) | (with_reducible refine RowIn.alloc ?_ _) | (with_reducible refine Below.alloc ?_ ?_ _) | (with_reducible apply Blk.set') | (with_reducible apply Blk.far') | (with_reducible refine RowIn.far' ?_ ?_ _) | (with_reducible refine Below.far' ?_ ?_ _) | rfl | omega | go_size)
      clear b1
      have kb_1 := zb_1.cell; have fb_1 := zb_1.frozen; have lb_1 := zb_1.lt
      have kd_1 := zd_1.cell; have fd_1 := zd_1.frozen; have ld_1 := zd_1.lt
      have kr_1 := zr_1.cell; have fr_1 := zr_1.frozen; have lr_1 := zr_1.lt
      have kx_1 := zx_1.cell; have fx_1 := zx_1.frozen; have lx_1 := zx_1.lt
      go_wp2_with fail
      refine (dcheck_ok p0 p1 q0 q1 _ hd).mono ?_
      rintro e w2 ⟨rfl, b2⟩
      have s2 := b2.size
      try simp only [World.size_alloc, World.size_setCell, World.size_drew, size_drewN] at s2
      obtain ⟨zb_2, zd_2, zr_2, zx_2, rb_2, bb_2⟩ : Blk w2 (w.heap.size) 26 [.slice A m c, .int .i64 ((bs.length : Nat) : Int)] ∧ Blk w2 (w.heap.size + 1) 62 [.int .i64 (p0 : Int), .int .i64 (p1 : Int), .int .u64 (q0 : Int), .int .u64 (q1 : Int)] ∧ Blk w2 (w.heap.size + 1 + 1) 26 [.slice none 0 0, .int .i64 0] ∧ Blk w2 (w.heap.size + 1 + 1 + 1) 62 [.int .i64 0, .int .i64 0, .int .u64 0, .int .u64 0] ∧ RowIn .u8 w2 (0) (w.heap.size) A m (pack bs) ∧ Below w.heap.size w w2 := by
        refine ⟨?_, ?_, ?_, ?_, ?_, ?_⟩
        all_goals repeat' (first | (with_reducible assumption) | (with_reducible exact Below.refl _ _) | (with_reducible refine Blk.after ?_ b2) | (with_reducible refine RowIn.belowS ?_ b2) | (with_reducible refine Below.after ?_ b2 ?_) | (with_reducible refine Blk.drewN ?_ _) | (with_reducible refine RowIn.drewN ?_ _) | (with_reducible refine below_drewN ?_ _) | (with_reducible refine Blk.drew ?_) | (with_reducible refine RowIn.drew ?_) | (with_reducible refine Below.drew ?_) | (with_reducible refine Blk.new' ?_ ?_ <;> first | (with_reducible rfl) | (simp; done)) | (with_reducible refine Blk.alloc ?_ _) | (with_reducible refine RowIn.alloc ?_ _) | (with_reducible refine Below.alloc ?_ ?_ _) | (with_reducible apply Blk.set') | (with_reducible apply Blk.far') | (with_reducible refine RowIn.far' ?_ ?_ _) | (with_reducible refine Below.far' ?_ ?_ _) | rfl | omega | go_size)
      clear zb_1 zd_1 zr_1 zx_1 rb_1 bb_1 kb_1 fb_1 lb_1 kd_1 fd_1 ld_1 kr_1 fr_1 lr_1 kx_1 fx_1 lx_1 b2
      have kb_2 := zb_2.cell; have fb_2 := zb_2.frozen; have lb_2 := zb_2.lt
      have kd_2 := zd_2.cell; have fd_2 := zd_2.frozen; have ld_2 := zd_2.lt
      have kr_2 := zr_2.cell; have fr_2 := zr_2.frozen; have lr_2 := zr_2.lt
      have kx_2 := zx_2.cell; have fx_2 := zx_2.frozen; have lx_2 := zx_2.lt
      go_wp2_with fail
      refine (dlevel_low p0 p1 q0 q1 v _ hd0 hv h).mono ?_
      rintro e w3 ⟨rfl, b3⟩
      have s3 := b3.size
      try simp only [World.size_alloc, World.size_setCell, World.size_drew, size_drewN] at s3
      obtain ⟨zb_3, zd_3, zr_3, zx_3, rb_3, bb_3⟩ : Blk w3 (w.heap.size) 26 [.slice A m c, .int .i64 ((bs.length : Nat) : Int)] ∧ Blk w3 (w.heap.size + 1) 62 [.int .i64 (p0 : Int), .int .i64 (p1 : Int), .int .u64 (q0 : Int), .int .u64 (q1 : Int)] ∧ Blk w3 (w.heap.size + 1 + 1) 26 [.slice none 0 0, .int .i64 0] ∧ Blk w3 (w.heap.size + 1 + 1 + 1) 62 [.int .i64 0, .int .i64 0, .int .u64 0, .int .u64 0] ∧ RowIn .u8 w3 (0) (w.heap.size) A m (pack bs) ∧ Below w.heap.size w w3 := by
        refine ⟨?_, ?_, ?_, ?_, ?_, ?_⟩
        all_goals repeat' (first | (with_reducible assumption) | (with_reducible exact Below.refl _ _) | (with_reducible refine Blk.after ?_ b3) | (with_reducible refine RowIn.belowS ?_ b3) | (with_reducible refine Below.after ?_ b3 ?_) | (with_reducible refine Blk.drewN ?_ _) | (with_reducible refine RowIn.drewN ?_ _) | (with_reducible refine below_drewN ?_ _) | (with_reducible refine Blk.drew ?_) | (with_reducible refine RowIn.drew ?_) | (with_reducible refine Below.drew ?_) | (with_reducible refine Blk.new' ?_ ?_ <;> first | (with_reducible rfl) | (simp; done)) | (with_reducible refine Blk.alloc ?_ _) | (with_reducible refine RowIn.alloc ?_ _) | (with_reducible refine Below.alloc ?_ ?_ _) | (with_reducible apply Blk.set') | (with_reducible apply Blk.far') | (with_reducible refine RowIn.far' ?_ ?_ _) | (with_reducible refine Below.far' ?_ ?_ _) | rfl | omega | go_size)
      clear zb_2 zd_2 zr_2 zx_2 rb_2 bb_2 kb_2 fb_2 lb_2 kd_2 fd_2 ld_2 kr_2 fr_2 lr_2 kx_2 fx_2 lx_2 b3
      have kb_3 := zb_3.cell; have fb_3 := zb_3.frozen; have lb_3 := zb_3.lt
      have kd_3 := zd_3.cell; have fd_3 := zd_3.frozen; have ld_3 := zd_3.lt
      have kr_3 := zr_3.cell; have fr_3 := zr_3.frozen; have lr_3 := zr_3.lt
      have kx_3 := zx_3.cell; have fx_3 := zx_3.frozen; have lx_3 := zx_3.lt
      have hw := bput_ret A m c bs (0 : Int) (1 : Int) w3 rb_3.row hc hl (by omega) (by omega)
      rw [HP.out] at hw
      replace hw := Lib.hid hw
      go_wp2_with fail
      refine (hw.out).mono ?_
      rintro e w4 ⟨Az, mz, cz, xz, rfl, hcz, rz, HXz, b4⟩
      have Lz : xz.length ≤ bs.length + 1 ∧ bs.length + 1 ≤ xz.length := by rw [HXz.out]; rw [List.length_append]; simp
      obtain ⟨Lz1, Lz2⟩ := Lz
      replace rz := rz.mono (lo' := w3.heap.size + 0) (by go_size) (Nat.le_refl _)
      have s4 := b4.size
      try simp only [World.size_alloc, World.size_setCell, World.size_drew, size_drewN] at s4
      obtain ⟨zb_4, zd_4, zr_4, zx_4, rb_4, rz_4, bb_4⟩ : Blk w4 (w.heap.size) 26 [.slice A m c, .int .i64 ((bs.length : Nat) : Int)] ∧ Blk w4 (w.heap.size + 1) 62 [.int .i64 (p0 : Int), .int .i64 (p1 : Int), .int .u64 (q0 : Int), .int .u64 (q1 : Int)] ∧ Blk w4 (w.heap.size + 1 + 1) 26 [.slice none 0 0, .int .i64 0] ∧ Blk w4 (w.heap.size + 1 + 1 + 1) 62 [.int .i64 0, .int .i64 0, .int .u64 0, .int .u64 0] ∧ RowIn .u8 w4 (0) (w.heap.size) A m (pack bs) ∧ RowIn .u8 w4 (w3.heap.size + 0) (w4.heap.size) Az mz (pack xz) ∧ Below w.heap.size w w4 := by
        refine ⟨?_, ?_, ?_, ?_, ?_, ?_, ?_⟩
        all_goals repeat' (first | (with_reducible assumption) | (with_reducible exact Below.refl _ _) | (with_reducible refine Blk.after ?_ b4) | (with_reducible refine RowIn.belowS ?_ b4) | (with_reducible refine Below.after ?_ b4 ?_) | (with_reducible refine Blk.drewN ?_ _) | (with_reducible refine RowIn.drewN ?_ _) | (with_reducible refine below_drewN ?_ _) | (with_reducible refine Blk.drew ?_) | (with_reducible refine RowIn.drew ?_) | (with_reducible refine Below.drew ?_) | (with_reducible refine Blk.new' ?_ ?_ <;> first | (with_reducible rfl) | (simp; done)) | (with_reducible refine Blk.alloc ?_ _) | (with_reducible refine RowIn.alloc ?_ _) | (with_reducible refine Below.alloc ?_ ?_ _) | (with_reducible apply Blk.set') | (with_reducible apply Blk.far') | (with_reducible refine RowIn.far' ?_ ?_ _) | (with_reducible refine Below.far' ?_ ?_ _) | rfl | omega | go_size)
      clear zb_3 zd_3 zr_3 zx_3 rb_3 bb_3 kb_3 fb_3 lb_3 kd_3 fd_3 ld_3 kr_3 fr_3 lr_3 kx_3 fx_3 lx_3 b4
      have kb_4 := zb_4.cell; have fb_4 := zb_4.frozen; have lb_4 := zb_4.lt
      have kd_4 := zd_4.cell; have fd_4 := zd_4.frozen; have ld_4 := zd_4.lt
      have kr_4 := zr_4.cell; have fr_4 := zr_4.frozen; have lr_4 := zr_4.lt
      have kx_4 := zx_4.cell; have fx_4 := zx_4.frozen; have lx_4 := zx_4.lt
      clear rz
      clear hw
      have HP2 : Hid (putR xz ((v : Nat) : Int).toNat ((p0 : Nat) : Int) = ([], 18)) := by
        unfold putR; rw [if_neg (by omega), if_neg (by rw [Int.toNat_natCast, Int.toNat_natCast]; exact Nat.not_le.2 h), if_pos (by rw [Int.toNat_natCast]; omega)]; exact Lib.hid rfl
      have hw := fun W (hr : Row .u8 W Az mz (pack xz)) => bput_ret Az mz cz xz ((v : Nat) : Int) ((p0 : Nat) : Int) W hr hcz (by omega) (by omega) (by omega)
      rw [HP2.out] at hw
      replace hw := Lib.hid hw
      go_wp2_with fail
      refine (hw.out _ (by exact RowIn.row (lo := w3.heap.size + 0) (hi := w4.heap.size) (by repeat' (first | (with_reducible assumption) | (with_reducible exact Below.refl _ _) | (with_reducible refine Blk.drewN ?_ _) | (with_reducible refine RowIn.drewN ?_ _) | (with_reducible refine below_drewN ?_ _) | (with_reducible refine Blk.drew ?_) | (with_reducible refine RowIn.drew ?_) | (with_reducible refine Below.drew ?_) | (with_reducible refine Blk.new' ?_ ?_ <;> first | (with_reducible rfl) | (simp; done)) | (with_reducible refine Blk.alloc ?_ _) | (with_reducible refine RowIn.alloc ?_ _) | (with_reducible refine Below.alloc ?_ ?_ _) | (with_reducible apply Blk.set') | (with_reducible apply Blk.far') | (with_reducible refine RowIn.far' ?_ ?_ _) | (with_reducible refine Below.far' ?_ ?_ _) | rfl | omega | go_size)))).mono ?_
      rintro e w5 ⟨Aq, mq, cq, xq, rfl, hcq, rq, HXq, b5⟩
      replace rq := rq.mono (lo' := w4.heap.size + 0) (by go_size) (Nat.le_refl _)
      have s5 := b5.size
      try simp only [World.size_alloc, World.size_setCell, World.size_drew, size_drewN] at s5
      obtain ⟨zb_5, zd_5, zr_5, zx_5, rz_5, rq_5, bb_5⟩ : Blk w5 (w.heap.size) 26 [.slice Az mz cz, .int .i64 ((xz.length : Nat) : Int)] ∧ Blk w5 (w.heap.size + 1) 62 [.int .i64 (p0 : Int), .int .i64 (p1 : Int), .int .u64 (q0 : Int), .int .u64 (q1 : Int)] ∧ Blk w5 (w.heap.size + 1 + 1) 26 [.slice none 0 0, .int .i64 0] ∧ Blk w5 (w.heap.size + 1 + 1 + 1) 62 [.int .i64 0, .int .i64 0, .int .u64 0, .int .u64 0] ∧ RowIn .u8 w5 (w3.heap.size + 0) (w4.heap.size) Az mz (pack xz) ∧ RowIn .u8 w5 (w4.heap.size + 0) (w5.heap.size) Aq mq (pack xq) ∧ Below w.heap.size w w5 := by
        refine ⟨?_, ?_, ?_, ?_, ?_, ?_, ?_⟩
        all_goals repeat' (first | (with_reducible assumption) | (with_reducible exact Below.refl _ _) | (with_reducible refine Blk.after ?_ b5) | (with_reducible refine RowIn.belowS ?_ b5) | (with_reducible refine Below.after ?_ b5 ?_) | (with_reducible refine Blk.drewN ?_ _) | (with_reducible refine RowIn.drewN ?_ _) | (with_reducible refine below_drewN ?_ _) | (with_reducible refine Blk.drew ?_) | (with_reducible refine RowIn.drew ?_) | (with_reducible refine Below.drew ?_) | (with_reducible refine Blk.new' ?_ ?_ <;> first | (with_reducible rfl) | (simp; done)) | (with_reducible refine Blk.alloc ?_ _) | (with_reducible refine RowIn.alloc ?_ _) | (with_reducible refine Below.alloc ?_ ?_ _) | (with_reducible apply Blk.set') | (with_reducible apply Blk.far') | (with_reducible refine RowIn.far' ?_ ?_ _) | (with_reducible refine Below.far' ?_ ?_ _) | rfl | omega | go_size)
      clear zb_4 zd_4 zr_4 zx_4 rb_4 rz_4 bb_4 kb_4 fb_4 lb_4 kd_4 fd_4 ld_4 kr_4 fr_4 lr_4 kx_4 fx_4 lx_4 b5
      have kb_5 := zb_5.cell; have fb_5 := zb_5.frozen; have lb_5 := zb_5.lt
      have kd_5 := zd_5.cell; have fd_5 := zd_5.frozen; have ld_5 := zd_5.lt
      have kr_5 := zr_5.cell; have fr_5 := zr_5.frozen; have lr_5 := zr_5.lt
      have kx_5 := zx_5.cell; have fx_5 := zx_5.frozen; have lx_5 := zx_5.lt
      clear rq
      clear hw
      go_wp2
      refine bodyPost_ret (v := .tuple #[.agg #[.slice none 0 0, .int .i64 0], .agg #[.int .i64 0, .int .i64 0, .int .u64 0, .int .u64 0], .int .i64 18]) (by simp [results, Tryd.results47, go_sem, kr_5, lr_5, kx_5, lx_5]) rfl ?_
      rw [HR.out]
      refine ⟨none, 0, 0, [], 0, 0, 0, 0, rfl, ⟨Nat.le_refl _, Nat.zero_le _⟩, RowIn.nil, Lib.hid rfl, Lib.hid rfl, ?_⟩
      repeat' (first | (with_reducible assumption) | (with_reducible exact Below.refl _ _) | (with_reducible refine Blk.drewN ?_ _) | (with_reducible refine RowIn.drewN ?_ _) | (with_reducible refine below_drewN ?_ _) | (with_reducible refine Blk.drew ?_) | (with_reducible refine RowIn.drew ?_) | (with_reducible refine Below.drew ?_) | (with_reducible refine Blk.new' ?_ ?_ <;> first | (with_reducible rfl) | (simp; done)) | (with_reducible refine Blk.alloc ?_ _) | (with_reducible refine RowIn.alloc ?_ _) | (with_reducible refine Below.alloc ?_ ?_ _) | (with_reducible apply Blk.set') | (with_reducible apply Blk.far') | (with_reducible refine RowIn.far' ?_ ?_ _) | (with_reducible refine Below.far' ?_ ?_ _) | rfl | omega | go_size)
    · have HR : Hid (dwR bs ⟨p0, p1, q0, q1⟩ v = (bs ++ codeD ⟨p0, p1, q0, q1⟩ v, learn ⟨p0, p1, q0, q1⟩ v, 0)) := by unfold dwR; rw [if_neg (by have := HLD.out; omega)]; exact Lib.hid rfl
      have H2 := Lib.hid h5
      go_enter Tryd.func47, Tryd.ntmps47
      go_wp2_with fail
      refine (bcheck_ok A m c bs _ (by exact RowIn.row (lo := 0) (hi := w.heap.size) (by repeat' (first | (with_reducible assumption) | (with_reducible exact Below.refl _ _) | (with_reducible refine Blk.drewN ?_ _) | (with_reducible refine RowIn.drewN ?_ _) | (with_reducible refine below_drewN ?_ _) | (with_reducible refine Blk.drew ?_) | (with_reducible refine RowIn.drew ?_) | (with_reducible refine Below.drew ?_) | (with_reducible refine Blk.new' ?_ ?_ <;> first | (with_reducible rfl) | (simp; done)) | (with_reducible refine Blk.alloc ?_ _) | (with_reducible refine RowIn.alloc ?_ _) | (with_reducible refine Below.alloc ?_ ?_ _) | (with_reducible apply Blk.set') | (with_reducible apply Blk.far') | (with_reducible refine RowIn.far' ?_ ?_ _) | (with_reducible refine Below.far' ?_ ?_ _) | rfl | omega | go_size))) (by omega) hl).mono ?_
      rintro e w1 ⟨rfl, b1⟩
      have s1 := b1.size
      try simp only [World.size_alloc, World.size_setCell, World.size_drew, size_drewN] at s1
      obtain ⟨zb_1, zd_1, zr_1, zx_1, rb_1, bb_1⟩ : Blk w1 (w.heap.size) 26 [.slice A m c, .int .i64 ((bs.length : Nat) : Int)] ∧ Blk w1 (w.heap.size + 1) 62 [.int .i64 (p0 : Int), .int .i64 (p1 : Int), .int .u64 (q0 : Int), .int .u64 (q1 : Int)] ∧ Blk w1 (w.heap.size + 1 + 1) 26 [.slice none 0 0, .int .i64 0] ∧ Blk w1 (w.heap.size + 1 + 1 + 1) 62 [.int .i64 0, .int .i64 0, .int .u64 0, .int .u64 0] ∧ RowIn .u8 w1 (0) (w.heap.size) A m (pack bs) ∧ Below w.heap.size w w1 := by
        refine ⟨?_, ?_, ?_, ?_, ?_, ?_⟩
        all_goals repeat' (first | (with_reducible assumption) | (with_reducible exact Below.refl _ _) | (with_reducible refine Blk.after ?_ b1) | (with_reducible refine RowIn.belowS ?_ b1) | (with_reducible refine Below.after ?_ b1 ?_) | (with_reducible refine Blk.drewN ?_ _) | (with_reducible refine RowIn.drewN ?_ _) | (with_reducible refine below_drewN ?_ _) | (with_reducible refine Blk.drew ?_) | (with_reducible refine RowIn.drew ?_) | (with_reducible refine Below.drew ?_) | (with_reducible refine Blk.new' ?_ ?_ <;> first | (with_reducible rfl) | (simp; done)) | (with_reducible refine Blk.alloc ?_ _) | (with_reducible refine RowIn.alloc ?_ _) | (with_reducible refine Below.alloc ?_ ?_ _) | (with_reducible apply Blk.set') | (with_reducible apply Blk.far') | (with_reducible refine RowIn.far' ?_ ?_ _) | (with_reducible refine Below.far' ?_ ?_ _) | rfl | omega | go_size)
      clear b1
      have kb_1 := zb_1.cell; have fb_1 := zb_1.frozen; have lb_1 := zb_1.lt
      have kd_1 := zd_1.cell; have fd_1 := zd_1.frozen; have ld_1 := zd_1.lt
      have kr_1 := zr_1.cell; have fr_1 := zr_1.frozen; have lr_1 := zr_1.lt
      have kx_1 := zx_1.cell; have fx_1 := zx_1.frozen; have lx_1 := zx_1.lt
      go_wp2_with fail
      refine (dcheck_ok p0 p1 q0 q1 _ hd).mono ?_
      rintro e w2 ⟨rfl, b2⟩
      have s2 := b2.size
      try simp only [World.size_alloc, World.size_setCell, World.size_drew, size_drewN] at s2
      obtain ⟨zb_2, zd_2, zr_2, zx_2, rb_2, bb_2⟩ : Blk w2 (w.heap.size) 26 [.slice A m c, .int .i64 ((bs.length : Nat) : Int)] ∧ Blk w2 (w.heap.size + 1) 62 [.int .i64 (p0 : Int), .int .i64 (p1 : Int), .int .u64 (q0 : Int), .int .u64 (q1 : Int)] ∧ Blk w2 (w.heap.size + 1 + 1) 26 [.slice none 0 0, .int .i64 0] ∧ Blk w2 (w.heap.size + 1 + 1 + 1) 62 [.int .i64 0, .int .i64 0, .int .u64 0, .int .u64 0] ∧ RowIn .u8 w2 (0) (w.heap.size) A m (pack bs) ∧ Below w.heap.size w w2 := by
        refine ⟨?_, ?_, ?_, ?_, ?_, ?_⟩
        all_goals repeat' (first | (with_reducible assumption) | (with_reducible exact Below.refl _ _) | (with_reducible refine Blk.after ?_ b2) | (with_reducible refine RowIn.belowS ?_ b2) | (with_reducible refine Below.after ?_ b2 ?_) | (with_reducible refine Blk.drewN ?_ _) | (with_reducible refine RowIn.drewN ?_ _) | (with_reducible refine below_drewN ?_ _) | (with_reducible refine Blk.drew ?_) | (with_reducible refine RowIn.drew ?_) | (with_reducible refine Below.drew ?_) | (with_reducible refine Blk.new' ?_ ?_ <;> first | (with_reducible rfl) | (simp; done)) | (with_reducible refine Blk.alloc ?_ _) | (with_reducible refine RowIn.alloc ?_ _) | (with_reducible refine Below.alloc ?_ ?_ _) | (with_reducible apply Blk.set') | (with_reducible apply Blk.far') | (with_reducible refine RowIn.far' ?_ ?_ _) | (with_reducible refine Below.far' ?_ ?_ _) | rfl | omega | go_size)
      clear zb_1 zd_1 zr_1 zx_1 rb_1 bb_1 kb_1 fb_1 lb_1 kd_1 fd_1 ld_1 kr_1 fr_1 lr_1 kx_1 fx_1 lx_1 b2
      have kb_2 := zb_2.cell; have fb_2 := zb_2.frozen; have lb_2 := zb_2.lt
      have kd_2 := zd_2.cell; have fd_2 := zd_2.frozen; have ld_2 := zd_2.lt
      have kr_2 := zr_2.cell; have fr_2 := zr_2.frozen; have lr_2 := zr_2.lt
      have kx_2 := zx_2.cell; have fx_2 := zx_2.frozen; have lx_2 := zx_2.lt
      go_wp2_with fail
      refine (dlevel_low p0 p1 q0 q1 v _ hd0 hv h).mono ?_
      rintro e w3 ⟨rfl, b3⟩
      have s3 := b3.size
      try simp only [World.size_alloc, World.size_setCell, World.size_drew, size_drewN] at s3
      obtain ⟨zb_3, zd_3, zr_3, zx_3, rb_3, bb_3⟩ : Blk w3 (w.heap.size) 26 [.slice A m c, .int .i64 ((bs.length : Nat) : Int)] ∧ Blk w3 (w.heap.size + 1) 62 [.int .i64 (p0 : Int), .int .i64 (p1 : Int), .int .u64 (q0 : Int), .int .u64 (q1 : Int)] ∧ Blk w3 (w.heap.size + 1 + 1) 26 [.slice none 0 0, .int .i64 0] ∧ Blk w3 (w.heap.size + 1 + 1 + 1) 62 [.int .i64 0, .int .i64 0, .int .u64 0, .int .u64 0] ∧ RowIn .u8 w3 (0) (w.heap.size) A m (pack bs) ∧ Below w.heap.size w w3 := by
        refine ⟨?_, ?_, ?_, ?_, ?_, ?_⟩
        all_goals repeat' (first | (with_reducible assumption) | (with_reducible exact Below.refl _ _) | (with_reducible refine Blk.after ?_ b3) | (with_reducible refine RowIn.belowS ?_ b3) | (with_reducible refine Below.after ?_ b3 ?_) | (with_reducible refine Blk.drewN ?_ _) | (with_reducible refine RowIn.drewN ?_ _) | (with_reducible refine below_drewN ?_ _) | (with_reducible refine Blk.drew ?_) | (with_reducible refine RowIn.drew ?_) | (with_reducible refine Below.drew ?_) | (with_reducible refine Blk.new' ?_ ?_ <;> first | (with_reducible rfl) | (simp; done)) | (with_reducible refine Blk.alloc ?_ _) | (with_reducible refine RowIn.alloc ?_ _) | (with_reducible refine Below.alloc ?_ ?_ _) | (with_reducible apply Blk.set') | (with_reducible apply Blk.far') | (with_reducible refine RowIn.far' ?_ ?_ _) | (with_reducible refine Below.far' ?_ ?_ _) | rfl | omega | go_size)
      clear zb_2 zd_2 zr_2 zx_2 rb_2 bb_2 kb_2 fb_2 lb_2 kd_2 fd_2 ld_2 kr_2 fr_2 lr_2 kx_2 fx_2 lx_2 b3
      have kb_3 := zb_3.cell; have fb_3 := zb_3.frozen; have lb_3 := zb_3.lt
      have kd_3 := zd_3.cell; have fd_3 := zd_3.frozen; have ld_3 := zd_3.lt
      have kr_3 := zr_3.cell; have fr_3 := zr_3.frozen; have lr_3 := zr_3.lt
      have kx_3 := zx_3.cell; have fx_3 := zx_3.frozen; have lx_3 := zx_3.lt
      have hw := bput_ret A m c bs (0 : Int) (1 : Int) w3 rb_3.row hc hl (by omega) (by omega)
      rw [HP.out] at hw
      replace hw := Lib.hid hw
      go_wp2_with fail
      refine (hw.out).mono ?_
      rintro e w4 ⟨Az, mz, cz, xz, rfl, hcz, rz, HXz, b4⟩
      have Lz : xz.length ≤ bs.length + 1 ∧ bs.length + 1 ≤ xz.length := by rw [HXz.out]; rw [List.length_append]; simp
      obtain ⟨Lz1, Lz2⟩ := Lz
      replace rz := rz.mono (lo' := w3.heap.size + 0) (by go_size) (Nat.le_refl _)
      have s4 := b4.size
      try simp only [World.size_alloc, World.size_setCell, World.size_drew, size_drewN] at s4
      obtain ⟨zb_4, zd_4, zr_4, zx_4, rb_4, rz_4, bb_4⟩ : Blk w4 (w.heap.size) 26 [.slice A m c, .int .i64 ((bs.length : Nat) : Int)] ∧ Blk w4 (w.heap.size + 1) 62 [.int .i64 (p0 : Int), .int .i64 (p1 : Int), .int .u64 (q0 : Int), .int .u64 (q1 : Int)] ∧ Blk w4 (w.heap.size + 1 + 1) 26 [.slice none 0 0, .int .i64 0] ∧ Blk w4 (w.heap.size + 1 + 1 + 1) 62 [.int .i64 0, .int .i64 0, .int .u64 0, .int .u64 0] ∧ RowIn .u8 w4 (0) (w.heap.size) A m (pack bs) ∧ RowIn .u8 w4 (w3.heap.size + 0) (w4.heap.size) Az mz (pack xz) ∧ Below w.heap.size w w4 := by
        refine ⟨?_, ?_, ?_, ?_, ?_, ?_, ?_⟩
        all_goals repeat' (first | (with_reducible assumption) | (with_reducible exact Below.refl _ _) | (with_reducible refine Blk.after ?_ b4) | (with_reducible refine RowIn.belowS ?_ b4) | (with_reducible refine Below.after ?_ b4 ?_) | (with_reducible refine Blk.drewN ?_ _) | (with_reducible refine RowIn.drewN ?_ _) | (with_reducible refine below_drewN ?_ _) | (with_reducible refine Blk.drew ?_) | (with_reducible refine RowIn.drew ?_) | (with_reducible refine Below.drew ?_) | (with_reducible refine Blk.new' ?_ ?_ <;> first | (with_reducible rfl) | (simp; done)) | (with_reducible refine Blk.alloc ?_ _) | (with_reducible refine RowIn.alloc ?_ _) | (with_reducible refine Below.alloc ?_ ?_ _) | (with_reducible apply Blk.set') | (with_reducible apply Blk.far') | (with_reducible refine RowIn.far' ?_ ?_ _) | (with_reducible refine Below.far' ?_ ?_ _) | rfl | omega | go_size)
      clear zb_3 zd_3 zr_3 zx_3 rb_3 bb_3 kb_3 fb_3 lb_3 kd_3 fd_3 ld_3 kr_3 fr_3 lr_3 kx_3 fx_3 lx_3 b4
      have kb_4 := zb_4.cell; have fb_4 := zb_4.frozen; have lb_4 := zb_4.lt
      have kd_4 := zd_4.cell; have fd_4 := zd_4.frozen; have ld_4 := zd_4.lt
      have kr_4 := zr_4.cell; have fr_4 := zr_4.frozen; have lr_4 := zr_4.lt
      have kx_4 := zx_4.cell; have fx_4 := zx_4.frozen; have lx_4 := zx_4.lt
      clear rz
      clear hw
      have HP2 : Hid (putR xz ((v : Nat) : Int).toNat ((p0 : Nat) : Int) = (xz ++ lowBits v p0, 0)) := by
        unfold putR; rw [if_neg (by omega), if_neg (by rw [Int.toNat_natCast, Int.toNat_natCast]; exact Nat.not_le.2 h), if_neg (by rw [Int.toNat_natCast]; omega)]; exact Lib.hid rfl
      have hw := fun W (hr : Row .u8 W Az mz (pack xz)) => bput_ret Az mz cz xz ((v : Nat) : Int) ((p0 : Nat) : Int) W hr hcz (by omega) (by omega) (by omega)
      rw [HP2.out] at hw
      replace hw := Lib.hid hw
      go_wp2_with fail
      refine (hw.out _ (by exact RowIn.row (lo := w3.heap.size + 0) (hi := w4.heap.size) (by repeat' (first | (with_reducible assumption) | (with_reducible exact Below.refl _ _) | (with_reducible refine Blk.drewN ?_ _) | (with_reducible refine RowIn.drewN ?_ _) | (with_reducible refine below_drewN ?_ _) | (with_reducible refine Blk.drew ?_) | (with_reducible refine RowIn.drew ?_) | (with_reducible refine Below.drew ?_) | (with_reducible refine Blk.new' ?_ ?_ <;> first | (with_reducible rfl) | (simp; done)) | (with_reducible refine Blk.alloc ?_ _) | (with_reducible refine RowIn.alloc ?_ _) | (with_reducible refine Below.alloc ?_ ?_ _) | (with_reducible apply Blk.set') | (with_reducible apply Blk.far') | (with_reducible refine RowIn.far' ?_ ?_ _) | (with_reducible refine Below.far' ?_ ?_ _) | rfl | omega | go_size)))).mono ?_
      rintro e w5 ⟨Aq, mq, cq, xq, rfl, hcq, rq, HXq, b5⟩
      replace rq := rq.mono (lo' := w4.heap.size + 0) (by go_size) (Nat.le_refl _)
      have s5 := b5.size
      try simp only [World.size_alloc, World.size_setCell, World.size_drew, size_drewN] at s5
      obtain ⟨zb_5, zd_5, zr_5, zx_5, rz_5, rq_5, bb_5⟩ : Blk w5 (w.heap.size) 26 [.slice Az mz cz, .int .i64 ((xz.length : Nat) : Int)] ∧ Blk w5 (w.heap.size + 1) 62 [.int .i64 (p0 : Int), .int .i64 (p1 : Int), .int .u64 (q0 : Int), .int .u64 (q1 : Int)] ∧ Blk w5 (w.heap.size + 1 + 1) 26 [.slice none 0 0, .int .i64 0] ∧ Blk w5 (w.heap.size + 1 + 1 + 1) 62 [.int .i64 0, .int .i64 0, .int .u64 0, .int .u64 0] ∧ RowIn .u8 w5 (w3.heap.size + 0) (w4.heap.size) Az mz (pack xz) ∧ RowIn .u8 w5 (w4.heap.size + 0) (w5.heap.size) Aq mq (pack xq) ∧ Below w.heap.size w w5 := by
        refine ⟨?_, ?_, ?_, ?_, ?_, ?_, ?_⟩
        all_goals repeat' (first | (with_reducible assumption) | (with_reducible exact Below.refl _ _) | (with_reducible refine Blk.after ?_ b5) | (with_reducible refine RowIn.belowS ?_ b5) | (with_reducible refine Below.after ?_ b5 ?_) | (with_reducible refine Blk.drewN ?_ _) | (with_reducible refine RowIn.drewN ?_ _) | (with_reducible refine below_drewN ?_ _) | (with_reducible refine Blk.drew ?_) | (with_reducible refine RowIn.drew ?_) | (with_reducible refine Below.drew ?_) | (with_reducible refine Blk.new' ?_ ?_ <;> first | (with_reducible rfl) | (simp; done)) | (with_reducible refine Blk.alloc ?_ _) | (with_reducible refine RowIn.alloc ?_ _) | (with_reducible refine Below.alloc ?_ ?_ _) | (with_reducible apply Blk.set') | (with_reducible apply Blk.far') | (with_reducible refine RowIn.far' ?_ ?_ _) | (with_reducible refine Below.far' ?_ ?_ _) | rfl | omega | go_size)
      clear zb_4 zd_4 zr_4 zx_4 rb_4 rz_4 bb_4 kb_4 fb_4 lb_4 kd_4 fd_4 ld_4 kr_4 fr_4 lr_4 kx_4 fx_4 lx_4 b5
      have kb_5 := zb_5.cell; have fb_5 := zb_5.frozen; have lb_5 := zb_5.lt
      have kd_5 := zd_5.cell; have fd_5 := zd_5.frozen; have ld_5 := zd_5.lt
      have kr_5 := zr_5.cell; have fr_5 := zr_5.frozen; have lr_5 := zr_5.lt
      have kx_5 := zx_5.cell; have fx_5 := zx_5.frozen; have lx_5 := zx_5.lt
      clear rq
      clear hw
      go_wp2_with fail
      obtain ⟨w6, hw6⟩ : ∃ w6, w6 = (w5.setCell ⟨w.heap.size, 0, none⟩ (.slice Aq mq cq)).setCell ⟨w.heap.size, 1, none⟩ (.int .i64 ((xq.length : Nat) : Int)) := ⟨_, rfl⟩
      have s6 : w5.heap.size ≤ w6.heap.size := by rw [hw6]; simp only [World.size_setCell]; exact Nat.le_refl _
      obtain ⟨zb6, zd6, zr6, zx6, rq6, bb6⟩ : Blk w6 w.heap.size 26 [.slice Aq mq cq, .int .i64 ((xq.length : Nat) : Int)] ∧ Blk w6 (w.heap.size + 1) 62 [.int .i64 (p0 : Int), .int .i64 (p1 : Int), .int .u64 (q0 : Int), .int .u64 (q1 : Int)] ∧ Blk w6 (w.heap.size + 1 + 1) 26 [.slice none 0 0, .int .i64 0] ∧ Blk w6 (w.heap.size + 1 + 1 + 1) 62 [.int .i64 0, .int .i64 0, .int .u64 0, .int .u64 0] ∧ RowIn .u8 w6 (w4.heap.size + 0) w5.heap.size Aq mq (pack xq) ∧ Below w.heap.size w w6 := by
        rw [hw6]
        refine ⟨?_, ?_, ?_, ?_, ?_, ?_⟩
        all_goals repeat' (first | (with_reducible assumption) | (with_reducible exact Below.refl _ _) | (with_reducible refine Blk.drewN ?_ _) | (with_reducible refine RowIn.drewN ?_ _) | (with_reducible refine below_drewN ?_ _) | (with_reducible refine Blk.drew ?_) | (with_reducible refine RowIn.drew ?_) | (with_reducible refine Below.drew ?_) | (with_reducible refine Blk.new' ?_ ?_ <;> first | (with_reducible rfl) | (simp; done)) | (with_reducible refine Blk.alloc ?_ _) | (with_reducible refine RowIn.alloc ?_ _) | (with_reducible refine Below.alloc ?_ ?_ _) | (with_reducible apply Blk.set') | (with_reducible apply Blk.far') | (with_reducible refine RowIn.far' ?_ ?_ _) | (with_reducible refine Below.far' ?_ ?_ _) | rfl | omega | go_size)
      rw [← hw6]
      clear hw6
      refine (dlearn_any (w.heap.size + 1) p0 p1 q0 q1 v _ hd hv zd6).mono ?_
      rintro e w9 ⟨u0, u1, v0, v1, rfl, HA, zd9, fr9⟩
      have zb9 := zb6.frm fr9 (by omega)
      have zr9 := zr6.frm fr9 (by omega)
      have zx9 := zx6.frm fr9 (by omega)
      have rq9 := RowIn.frm rq6 fr9 (fun j h1 h2 => by omega)
      have bb9 : Below w.heap.size w w9 := bb6.trans (fr9.below bb6.size (fun k hk h => by omega))
      have s9 := fr9.size
      clear zb_5 zd_5 zr_5 zx_5 rz_5 rq_5 bb_5 kb_5 fb_5 lb_5 kd_5 fd_5 ld_5 kr_5 fr_5 lr_5 kx_5 fx_5 lx_5 zb6 zd6 zr6 zx6 rq6 bb6
      have kb9 := zb9.cell; have lb9 := zb9.lt; have kd9 := zd9.cell; have ld9 := zd9.lt; have kr9 := zr9.cell; have fr9b := zr9.frozen; have lr9 := zr9.lt; have kx9 := zx9.cell; have fx9 := zx9.frozen; have lx9 := zx9.lt
      go_wp2_with fail
      go_region
      all_goals
        go_wp2
        refine bodyPost_ret (v := .tuple #[.agg #[.slice Aq mq cq, .int .i64 ((xq.length : Nat) : Int)], .agg #[.int .i64 (u0 : Int), .int .i64 (u1 : Int), .int .u64 (v0 : Int), .int .u64 (v1 : Int)], .int .i64 0]) (by simp [results, Tryd.results47, go_sem, kr9, lr9, kx9, lx9]) rfl ?_
        rw [HR.out]
        refine ⟨Aq, mq, cq, xq, u0, u1, v0, v1, rfl, hcq, ?_, ?_, HA, ?_⟩
        · refine RowIn.mono (lo := w4.heap.size + 0) (hi := w5.heap.size) ?_ (by omega) (by go_size)
          repeat' (first | (with_reducible assumption) | (with_reducible exact Below.refl _ _) | (with_reducible refine Blk.drewN ?_ _) | (with_reducible refine RowIn.drewN ?_ _) | (with_reducible refine below_drewN ?_ _) | (with_reducible refine Blk.drew ?_) | (with_reducible refine RowIn.drew ?_) | (with_reducible refine Below.drew ?_) | (with_reducible refine Blk.new' ?_ ?_ <;> first | (with_reducible rfl) | (simp; done)) | (with_reducible refine Blk.alloc ?_ _) | (with_reducible refine RowIn.alloc ?_ _) | (with_reducible refine Below.alloc ?_ ?_ _) | (with_reducible apply Blk.set') | (with_reducible apply Blk.far') | (with_reducible refine RowIn.far' ?_ ?_ _) | (with_reducible refine Below.far' ?_ ?_ _) | rfl | omega | go_size)
        · rw [HXq.out, HXz.out, HCD.out, List.append_assoc]; exact Lib.hid rfl
        · repeat' (first | (with_reducible assumption) | (with_reducible exact Below.refl _ _) | (with_reducible refine Blk.drewN ?_ _) | (with_reducible refine RowIn.drewN ?_ _) | (with_reducible refine below_drewN ?_ _) | (with_reducible refine Blk.drew ?_) | (with_reducible refine RowIn.drew ?_) | (with_reducible refine Below.drew ?_) | (with_reducible refine Blk.new' ?_ ?_ <;> first | (with_reducible rfl) | (simp; done)) | (with_reducible refine Blk.alloc ?_ _) | (with_reducible refine RowIn.alloc ?_ _) | (with_reducible refine Below.alloc ?_ ?_ _) | (with_reducible apply Blk.set') | (with_reducible apply Blk.far') | (with_reducible refine RowIn.far' ?_ ?_ _) | (with_reducible refine Below.far' ?_ ?_ _) | rfl | omega | go_size)
  · have hlen : 1 ≤ lenD ⟨p0, p1, q0, q1⟩ v := by unfold lenD; split <;> omega
    by_cases h0 : 330000 < bs.length + 1
    · have HR : Hid (dwR bs ⟨p0, p1, q0, q1⟩ v = ([], dualZero, 18)) := by unfold dwR; rw [if_pos (by omega)]; exact Lib.hid rfl
      have HP : Hid (putR bs (1 : Int).toNat (1 : Int) = ([], 18)) := by unfold putR; rw [if_neg (by omega), if_neg (by decide), if_pos (by show 330000 < bs.length + 1; omega)]; exact Lib.hid rfl
      go_enter Tryd.func47, Tryd.ntmps47
      go_wp2_with fail
      refine (bcheck_ok A m c bs _ (by exact RowIn.row (lo := 0) (hi := w.heap.size) (by repeat' (first | (with_reducible assumption) | (with_reducible exact Below.refl _ _) | (with_reducible refine Blk.drewN ?_ _) | (with_reducible refine RowIn.drewN ?_ _) | (with_reducible refine below_drewN ?_ _) | (with_reducible refine Blk.drew ?_) | (with_reducible refine RowIn.drew ?_) | (with_reducible refine Below.drew ?_) | (with_reducible refine Blk.new' ?_ ?_ <;> first | (with_reducible rfl) | (simp; done)) | (with_reducible refine Blk.alloc ?_ _) | (with_reducible refine RowIn.alloc ?_ _) | (with_reducible refine Below.alloc ?_ ?_ _) | (with_reducible apply Blk.set') | (with_reducible apply Blk.far') | (with_reducible refine RowIn.far' ?_ ?_ _) | (with_reducible refine Below.far' ?_ ?_ _) | rfl | omega | go_size))) (by omega) hl).mono ?_
      rintro e w1 ⟨rfl, b1⟩
      have s1 := b1.size
      try simp only [World.size_alloc, World.size_setCell, World.size_drew, size_drewN] at s1
      obtain ⟨zb_1, zd_1, zr_1, zx_1, rb_1, bb_1⟩ : Blk w1 (w.heap.size) 26 [.slice A m c, .int .i64 ((bs.length : Nat) : Int)] ∧ Blk w1 (w.heap.size + 1) 62 [.int .i64 (p0 : Int), .int .i64 (p1 : Int), .int .u64 (q0 : Int), .int .u64 (q1 : Int)] ∧ Blk w1 (w.heap.size + 1 + 1) 26 [.slice none 0 0, .int .i64 0] ∧ Blk w1 (w.heap.size + 1 + 1 + 1) 62 [.int .i64 0, .int .i64 0, .int .u64 0, .int .u64 0] ∧ RowIn .u8 w1 (0) (w.heap.size) A m (pack bs) ∧ Below w.heap.size w w1 := by
        refine ⟨?_, ?_, ?_, ?_, ?_, ?_⟩
        all_goals repeat' (first | (with_reducible assumption) | (with_reducible exact Below.refl _ _) | (with_reducible refine Blk.after ?_ b1) | (with_reducible refine RowIn.belowS ?_ b1) | (with_reducible refine Below.after ?_ b1 ?_) | (with_reducible refine Blk.drewN ?_ _) | (with_reducible refine RowIn.drewN ?_ _) | (with_reducible refine below_drewN ?_ _) | (with_reducible refine Blk.drew ?_) | (with_reducible refine RowIn.drew ?_) | (with_reducible refine Below.drew ?_) | (with_reducible refine Blk.new' ?_ ?_ <;> first | (with_reducible rfl) | (simp; done)) | (with_reducible refine Blk.alloc ?_ _) | (with_reducible refine RowIn.alloc ?_ _) | (with_reducible refine Below.alloc ?_ ?_ _) | (with_reducible apply Blk.set') | (with_reducible apply Blk.far') | (with_reducible refine RowIn.far' ?_ ?_ _) | (with_reducible refine Below.far' ?_ ?_ _) | rfl | omega | go_size)
      clear b1
      have kb_1 := zb_1.cell; have fb_1 := zb_1.frozen; have lb_1 := zb_1.lt
      have kd_1 := zd_1.cell; have fd_1 := zd_1.frozen; have ld_1 := zd_1.lt
      have kr_1 := zr_1.cell; have fr_1 := zr_1.frozen; have lr_1 := zr_1.lt
      have kx_1 := zx_1.cell; have fx_1 := zx_1.frozen; have lx_1 := zx_1.lt
      go_wp2_with fail
      refine (dcheck_ok p0 p1 q0 q1 _ hd).mono ?_
      rintro e w2 ⟨rfl, b2⟩
      have s2 := b2.size
      try simp only [World.size_alloc, World.size_setCell, World.size_drew, size_drewN] at s2
      obtain ⟨zb_2, zd_2, zr_2, zx_2, rb_2, bb_2⟩ : Blk w2 (w.heap.size) 26 [.slice A m c, .int .i64 ((bs.length : Nat) : Int)] ∧ Blk w2 (w.heap.size + 1) 62 [.int .i64 (p0 : Int), .int .i64 (p1 : Int), .int .u64 (q0 : Int), .int .u64 (q1 : Int)] ∧ Blk w2 (w.heap.size + 1 + 1) 26 [.slice none 0 0, .int .i64 0] ∧ Blk w2 (w.heap.size + 1 + 1 + 1) 62 [.int .i64 0, .int .i64 0, .int .u64 0, .int .u64 0] ∧ RowIn .u8 w2 (0) (w.heap.size) A m (pack bs) ∧ Below w.heap.size w w2 := by
        refine ⟨?_, ?_, ?_, ?_, ?_, ?_⟩
        all_goals repeat' (first | (with_reducible assumption) | (with_reducible exact Below.refl _ _) | (with_reducible refine Blk.after ?_ b2) | (with_reducible refine RowIn.belowS ?_ b2) | (with_reducible refine Below.after ?_ b2 ?_) | (with_reducible refine Blk.drewN ?_ _) | (with_reducible refine RowIn.drewN ?_ _) | (with_reducible refine below_drewN ?_ _) | (with_reducible refine Blk.drew ?_) | (with_reducible refine RowIn.drew ?_) | (with_reducible refine Below.drew ?_) | (with_reducible refine Blk.new' ?_ ?_ <;> first | (with_reducible rfl) | (simp; done)) | (with_reducible refine Blk.alloc ?_ _) | (with_reducible refine RowIn.alloc ?_ _) | (with_reducible refine Below.alloc ?_ ?_ _) | (with_reducible apply Blk.set') | (with_reducible apply Blk.far') | (with_reducible refine RowIn.far' ?_ ?_ _) | (with_reducible refine Below.far' ?_ ?_ _) | rfl | omega | go_size)
      clear zb_1 zd_1 zr_1 zx_1 rb_1 bb_1 kb_1 fb_1 lb_1 kd_1 fd_1 ld_1 kr_1 fr_1 lr_1 kx_1 fx_1 lx_1 b2
      have kb_2 := zb_2.cell; have fb_2 := zb_2.frozen; have lb_2 := zb_2.lt
      have kd_2 := zd_2.cell; have fd_2 := zd_2.frozen; have ld_2 := zd_2.lt
      have kr_2 := zr_2.cell; have fr_2 := zr_2.frozen; have lr_2 := zr_2.lt
      have kx_2 := zx_2.cell; have fx_2 := zx_2.frozen; have lx_2 := zx_2.lt
      go_wp2_with fail
      refine (dlevel_high p0 p1 q0 q1 v _ hd0 hv h).mono ?_
      rintro e w3 ⟨y, rfl, HY, b3⟩
      have s3 := b3.size
      try simp only [World.size_alloc, World.size_setCell, World.size_drew, size_drewN] at s3
      obtain ⟨zb_3, zd_3, zr_3, zx_3, rb_3, bb_3⟩ : Blk w3 (w.heap.size) 26 [.slice A m c, .int .i64 ((bs.length : Nat) : Int)] ∧ Blk w3 (w.heap.size + 1) 62 [.int .i64 (p0 : Int), .int .i64 (p1 : Int), .int .u64 (q0 : Int), .int .u64 (q1 : Int)] ∧ Blk w3 (w.heap.size + 1 + 1) 26 [.slice none 0 0, .int .i64 0] ∧ Blk w3 (w.heap.size + 1 + 1 + 1) 62 [.int .i64 0, .int .i64 0, .int .u64 0, .int .u64 0] ∧ RowIn .u8 w3 (0) (w.heap.size) A m (pack bs) ∧ Below w.heap.size w w3 := by
        refine ⟨?_, ?_, ?_, ?_, ?_, ?_⟩
        all_goals repeat' (first | (with_reducible assumption) | (with_reducible exact Below.refl _ _) | (with_reducible refine Blk.after ?_ b3) | (with_reducible refine RowIn.belowS ?_ b3) | (with_reducible refine Below.after ?_ b3 ?_) | (with_reducible refine Blk.drewN ?_ _) | (with_reducible refine RowIn.drewN ?_ _) | (with_reducible refine below_drewN ?_ _) | (with_reducible refine Blk.drew ?_) | (with_reducible refine RowIn.drew ?_) | (with_reducible refine Below.drew ?_) | (with_reducible refine Blk.new' ?_ ?_ <;> first | (with_reducible rfl) | (simp; done)) | (with_reducible refine Blk.alloc ?_ _) | (with_reducible refine RowIn.alloc ?_ _) | (with_reducible refine Below.alloc ?_ ?_ _) | (with_reducible apply Blk.set') | (with_reducible apply Blk.far') | (with_reducible refine RowIn.far' ?_ ?_ _) | (with_reducible refine Below.far' ?_ ?_ _) | rfl | omega | go_size)
      clear zb_2 zd_2 zr_2 zx_2 rb_2 bb_2 kb_2 fb_2 lb_2 kd_2 fd_2 ld_2 kr_2 fr_2 lr_2 kx_2 fx_2 lx_2 b3
      have kb_3 := zb_3.cell; have fb_3 := zb_3.frozen; have lb_3 := zb_3.lt
      have kd_3 := zd_3.cell; have fd_3 := zd_3.frozen; have ld_3 := zd_3.lt
      have kr_3 := zr_3.cell; have fr_3 := zr_3.frozen; have lr_3 := zr_3.lt
      have kx_3 := zx_3.cell; have fx_3 := zx_3.frozen; have lx_3 := zx_3.lt
      have hy : y < 4294967296 := by rw [HY.out]; exact Nat.lt_of_le_of_lt (Nat.sub_le _ _) hv
      have hw := bput_ret A m c bs (1 : Int) (1 : Int) w3 rb_3.row hc hl (by omega) (by omega)
      rw [HP.out] at hw
      replace hw := Lib.hid hw
      go_wp2_with fail
      refine (hw.out).mono ?_
      rintro e w4 ⟨Az, mz, cz, xz, rfl, hcz, rz, HXz, b4⟩
      replace rz := rz.mono (lo' := w3.heap.size + 0) (by go_size) (Nat.le_refl _)
      have s4 := b4.size
      try simp only [World.size_alloc, World.size_setCell, World.size_drew, size_drewN] at s4
      obtain ⟨zb_4, zd_4, zr_4, zx_4, rb_4, rz_4, bb_4⟩ : Blk w4 (w.heap.size) 26 [.slice A m c, .int .i64 ((bs.length : Nat) : Int)] ∧ Blk w4 (w.heap.size + 1) 62 [.int .i64 (p0 : Int), .int .i64 (p1 : Int), .int .u64 (q0 : Int), .int .u64 (q1 : Int)] ∧ Blk w4 (w.heap.size + 1 + 1) 26 [.slice none 0 0, .int .i64 0] ∧ Blk w4 (w.heap.size + 1 + 1 + 1) 62 [.int .i64 0, .int .i64 0, .int .u64 0, .int .u64 0] ∧ RowIn .u8 w4 (0) (w.heap.size) A m (pack bs) ∧ RowIn .u8 w4 (w3.heap.size + 0) (w4.heap.size) Az mz (pack xz) ∧ Below w.heap.size w w4 := by
        refine ⟨?_, ?_, ?_, ?_, ?_, ?_, ?_⟩
        all_goals repeat' (first | (with_reducible assumption) | (with_reducible exact Below.refl _ _) | (with_reducible refine Blk.after ?_ b4) | (with_reducible refine RowIn.belowS ?_ b4) | (with_reducible refine Below.after ?_ b4 ?_) | (with_reducible refine Blk.drewN ?_ _) | (with_reducible refine RowIn.drewN ?_ _) | (with_reducible refine below_drewN ?_ _) | (with_reducible refine Blk.drew ?_) | (with_reducible refine RowIn.drew ?_) | (with_reducible refine Below.drew ?_) | (with_reducible refine Blk.new' ?_ ?_ <;> first | (with_reducible rfl) | (simp; done)) | (with_reducible refine Blk.alloc ?_ _) | (with_reducible refine RowIn.alloc ?_ _) | (with_reducible refine Below.alloc ?_ ?_ _) | (with_reducible apply Blk.set') | (with_reducible apply Blk.far') | (with_reducible refine RowIn.far' ?_ ?_ _) | (with_reducible refine Below.far' ?_ ?_ _) | rfl | omega | go_size)
      clear zb_3 zd_3 zr_3 zx_3 rb_3 bb_3 kb_3 fb_3 lb_3 kd_3 fd_3 ld_3 kr_3 fr_3 lr_3 kx_3 fx_3 lx_3 b4
      have kb_4 := zb_4.cell; have fb_4 := zb_4.frozen; have lb_4 := zb_4.lt
      have kd_4 := zd_4.cell; have fd_4 := zd_4.frozen; have ld_4 := zd_4.lt
      have kr_4 := zr_4.cell; have fr_4 := zr_4.frozen; have lr_4 := zr_4.lt
      have kx_4 := zx_4.cell; have fx_4 := zx_4.frozen; have lx_4 := zx_4.lt
      clear rz
      clear hw
      go_wp2
      refine bodyPost_ret (v := .tuple #[.agg #[.slice none 0 0, .int .i64 0], .agg #[.int .i64 0, .int .i64 0, .int .u64 0, .int .u64 0], .int .i64 18]) (by simp [results, Tryd.results47, go_sem, kr_4, lr_4, kx_4, lx_4]) rfl ?_
      rw [HR.out]
      refine ⟨none, 0, 0, [], 0, 0, 0, 0, rfl, ⟨Nat.le_refl _, Nat.zero_le _⟩, RowIn.nil, Lib.hid rfl, Lib.hid rfl, ?_⟩
      repeat' (first | (with_reducible assumption) | (with_reducible exact Below.refl _ _) | (with_reducible refine Blk.drewN ?_ _) | (with_reducible refine RowIn.drewN ?_ _) | (with_reducible refine below_drewN ?_ _) | (with_reducible refine Blk.drew ?_) | (with_reducible refine RowIn.drew ?_) | (with_reducible refine Below.drew ?_) | (with_reducible refine Blk.new' ?_ ?_ <;> first | (with_reducible rfl) | (simp; done)) | (with_reducible refine Blk.alloc ?_ _) | (with_reducible refine RowIn.alloc ?_ _) | (with_reducible refine Below.alloc ?_ ?_ _) | (with_reducible apply Blk.set') | (with_reducible apply Blk.far') | (with_reducible refine RowIn.far' ?_ ?_ _) | (with_reducible refine Below.far' ?_ ?_ _) | rfl | omega | go_size)
    have HP : Hid (putR bs (1 : Int).toNat (1 : Int) = (bs ++ [true], 0)) := by unfold putR; rw [if_neg (by omega), if_neg (by decide), if_neg (by show ¬ 330000 < bs.length + 1; omega)]; exact Lib.hid rfl
    have HLD : Hid (lenD ⟨p0, p1, q0, q1⟩ v = 1 + riceLen (v - 2 ^ p0) p1) := Lib.hid (by unfold lenD; rw [if_neg h])
    have HCD : Hid (codeD ⟨p0, p1, q0, q1⟩ v = true :: rice (v - 2 ^ p0) p1) := Lib.hid (by unfold codeD; rw [if_neg h])
    by_cases h5 : 330000 < bs.length + 1 + riceLen (v - 2 ^ p0) p1
    · have HR : Hid (dwR bs ⟨p0, p1, q0, q1⟩ v = ([], dualZero, 18)) := by unfold dwR; rw [if_pos (by have := HLD.out; omega)]; exact Lib.hid rfl
      go_enter Tryd.func47, Tryd.ntmps47
      go_wp2_with fail
      refine (bcheck_ok A m c bs _ (by exact RowIn.row (lo := 0) (hi := w.heap.size) (by repeat' (first | (with_reducible assumption) | (with_reducible exact Below.refl _ _) | (with_reducible refine Blk.drewN ?_ _) | (with_reducible refine RowIn.drewN ?_ _) | (with_reducible refine below_drewN ?_ _) | (with_reducible refine Blk.drew ?_) | (with_reducible refine RowIn.drew ?_) | (with_reducible refine Below.drew ?_) | (with_reducible refine Blk.new' ?_ ?_ <;> first | (with_reducible rfl) | (simp; done)) | (with_reducible refine Blk.alloc ?_ _) | (with_reducible refine RowIn.alloc ?_ _) | (with_reducible refine Below.alloc ?_ ?_ _) | (with_reducible apply Blk.set') | (with_reducible apply Blk.far') | (with_reducible refine RowIn.far' ?_ ?_ _) | (with_reducible refine Below.far' ?_ ?_ _) | rfl | omega | go_size))) (by omega) hl).mono ?_
      rintro e w1 ⟨rfl, b1⟩
      have s1 := b1.size
      try simp only [World.size_alloc, World.size_setCell, World.size_drew, size_drewN] at s1
      obtain ⟨zb_1, zd_1, zr_1, zx_1, rb_1, bb_1⟩ : Blk w1 (w.heap.size) 26 [.slice A m c, .int .i64 ((bs.length : Nat) : Int)] ∧ Blk w1 (w.heap.size + 1) 62 [.int .i64 (p0 : Int), .int .i64 (p1 : Int), .int .u64 (q0 : Int), .int .u64 (q1 : Int)] ∧ Blk w1 (w.heap.size + 1 + 1) 26 [.slice none 0 0, .int .i64 0] ∧ Blk w1 (w.heap.size + 1 + 1 + 1) 62 [.int .i64 0, .int .i64 0, .int .u64 0, .int .u64 0] ∧ RowIn .u8 w1 (0) (w.heap.size) A m (pack bs) ∧ Below w.heap.size w w1 := by
        refine ⟨?_, ?_, ?_, ?_, ?_, ?_⟩
        all_goals repeat' (first | (with_reducible assumption) | (with_reducible exact Below.refl _ _) | (with_reducible refine Blk.after ?_ b1) | (with_reducible refine RowIn.belowS ?_ b1) | (with_reducible refine Below.after ?_ b1 ?_) | (with_reducible refine Blk.drewN ?_ _) | (with_reducible refine RowIn.drewN ?_ _) | (with_reducible refine below_drewN ?_ _) | (with_reducible refine Blk.drew ?_) | (with_reducible refine RowIn.drew ?_) | (with_reducible refine Below.drew ?_) | (with_reducible refine Blk.new' ?_ ?_ <;> first | (with_reducible rfl) | (simp; done)) | (with_reducible refine Blk.alloc ?_ _) | (with_reducible refine RowIn.alloc ?_ _) | (with_reducible refine Below.alloc ?_ ?_ _) | (with_reducible apply Blk.set') | (with_reducible apply Blk.far') | (with_reducible refine RowIn.far' ?_ ?_ _) | (with_reducible refine Below.far' ?_ ?_ _) | rfl | omega | go_size)
      clear b1
      have kb_1 := zb_1.cell; have fb_1 := zb_1.frozen; have lb_1 := zb_1.lt
      have kd_1 := zd_1.cell; have fd_1 := zd_1.frozen; have ld_1 := zd_1.lt
      have kr_1 := zr_1.cell; have fr_1 := zr_1.frozen; have lr_1 := zr_1.lt
      have kx_1 := zx_1.cell; have fx_1 := zx_1.frozen; have lx_1 := zx_1.lt
      go_wp2_with fail
      refine (dcheck_ok p0 p1 q0 q1 _ hd).mono ?_
      rintro e w2 ⟨rfl, b2⟩
      have s2 := b2.size
      try simp only [World.size_alloc, World.size_setCell, World.size_drew, size_drewN] at s2
      obtain ⟨zb_2, zd_2, zr_2, zx_2, rb_2, bb_2⟩ : Blk w2 (w.heap.size) 26 [.slice A m c, .int .i64 ((bs.length : Nat) : Int)] ∧ Blk w2 (w.heap.size + 1) 62 [.int .i64 (p0 : Int), .int .i64 (p1 : Int), .int .u64 (q0 : Int), .int .u64 (q1 : Int)] ∧ Blk w2 (w.heap.size + 1 + 1) 26 [.slice none 0 0, .int .i64 0] ∧ Blk w2 (w.heap.size + 1 + 1 + 1) 62 [.int .i64 0, .int .i64 0, .int .u64 0, .int .u64 0] ∧ RowIn .u8 w2 (0) (w.heap.size) A m (pack bs) ∧ Below w.heap.size w w2 := by
        refine ⟨?_, ?_, ?_, ?_, ?_, ?_⟩
        all_goals repeat' (first | (with_reducible assumption) | (with_reducible exact Below.refl _ _) | (with_reducible refine Blk.after ?_ b2) | (with_reducible refine RowIn.belowS ?_ b2) | (with_reducible refine Below.after ?_ b2 ?_) | (with_reducible refine Blk.drewN ?_ _) | (with_reducible refine RowIn.drewN ?_ _) | (with_reducible refine below_drewN ?_ _) | (with_reducible refine Blk.drew ?_) | (with_reducible refine RowIn.drew ?_) | (with_reducible refine Below.drew ?_) | (with_reducible refine Blk.new' ?_ ?_ <;> first | (with_reducible rfl) | (simp; done)) | (with_reducible refine Blk.alloc ?_ _) | (with_reducible refine RowIn.alloc ?_ _) | (with_reducible refine Below.alloc ?_ ?_ _) | (with_reducible apply Blk.set') | (with_reducible apply Blk.far') | (with_reducible refine RowIn.far' ?_ ?_ _) | (with_reducible refine Below.far' ?_ ?_ _) | rfl | omega | go_size)
      clear zb_1 zd_1 zr_1 zx_1 rb_1 bb_1 kb_1 fb_1 lb_1 kd_1 fd_1 ld_1 kr_1 fr_1 lr_1 kx_1 fx_1 lx_1 b2
      have kb_2 := zb_2.cell; have fb_2 := zb_2.frozen; have lb_2 := zb_2.lt
      have kd_2 := zd_2.cell; have fd_2 := zd_2.frozen; have ld_2 := zd_2.lt
      have kr_2 := zr_2.cell; have fr_2 := zr_2.frozen; have lr_2 := zr_2.lt
      have kx_2 := zx_2.cell; have fx_2 := zx_2.frozen; have lx_2 := zx_2.lt
      go_wp2_with fail
      refine (dlevel_high p0 p1 q0 q1 v _ hd0 hv h).mono ?_
      rintro e w3 ⟨y, rfl, HY, b3⟩
      have s3 := b3.size
      try simp only [World.size_alloc, World.size_setCell, World.size_drew, size_drewN] at s3
      obtain ⟨zb_3, zd_3, zr_3, zx_3, rb_3, bb_3⟩ : Blk w3 (w.heap.size) 26 [.slice A m c, .int .i64 ((bs.length : Nat) : Int)] ∧ Blk w3 (w.heap.size + 1) 62 [.int .i64 (p0 : Int), .int .i64 (p1 : Int), .int .u64 (q0 : Int), .int .u64 (q1 : Int)] ∧ Blk w3 (w.heap.size + 1 + 1) 26 [.slice none 0 0, .int .i64 0] ∧ Blk w3 (w.heap.size + 1 + 1 + 1) 62 [.int .i64 0, .int .i64 0, .int .u64 0, .int .u64 0] ∧ RowIn .u8 w3 (0) (w.heap.size) A m (pack bs) ∧ Below w.heap.size w w3 := by
        refine ⟨?_, ?_, ?_, ?_, ?_, ?_⟩
        all_goals repeat' (first | (with_reducible assumption) | (with_reducible exact Below.refl _ _) | (with_reducible refine Blk.after ?_ b3) | (with_reducible refine RowIn.belowS ?_ b3) | (with_reducible refine Below.after ?_ b3 ?_) | (with_reducible refine Blk.drewN ?_ _) | (with_reducible refine RowIn.drewN ?_ _) | (with_reducible refine below_drewN ?_ _) | (with_reducible refine Blk.drew ?_) | (with_reducible refine RowIn.drew ?_) | (with_reducible refine Below.drew ?_) | (with_reducible refine Blk.new' ?_ ?_ <;> first | (with_reducible rfl) | (simp; done)) | (with_reducible refine Blk.alloc ?_ _) | (with_reducible refine RowIn.alloc ?_ _) | (with_reducible refine Below.alloc ?_ ?_ _) | (with_reducible apply Blk.set') | (with_reducible apply Blk.far') | (with_reducible refine RowIn.far' ?_ ?_ _) | (with_reducible refine Below.far' ?_ ?_ _) | rfl | omega | go_size)
      clear zb_2 zd_2 zr_2 zx_2 rb_2 bb_2 kb_2 fb_2 lb_2 kd_2 fd_2 ld_2 kr_2 fr_2 lr_2 kx_2 fx_2 lx_2 b3
      have kb_3 := zb_3.cell; have fb_3 := zb_3.frozen; have lb_3 := zb_3.lt
      have kd_3 := zd_3.cell; have fd_3 := zd_3.frozen; have ld_3 := zd_3.lt
      have kr_3 := zr_3.cell; have fr_3 := zr_3.frozen; have lr_3 := zr_3.lt
      have kx_3 := zx_3.cell; have fx_3 := zx_3.frozen; have lx_3 := zx_3.lt
      have hy : y < 4294967296 := by rw [HY.out]; exact Nat.lt_of_le_of_lt (Nat.sub_le _ _) hv
      have hw := bput_ret A m c bs (1 : Int) (1 : Int) w3 rb_3.row hc hl (by omega) (by omega)
      rw [HP.out] at hw
      replace hw := Lib.hid hw
      go_wp2_with fail
      refine (hw.out).mono ?_
      rintro e w4 ⟨Az, mz, cz, xz, rfl, hcz, rz, HXz, b4⟩
      have Lz : xz.length ≤ bs.length + 1 ∧ bs.length + 1 ≤ xz.length := by rw [HXz.out]; rw [List.length_append]; simp
      obtain ⟨Lz1, Lz2⟩ := Lz
      replace rz := rz.mono (lo' := w3.heap.size + 0) (by go_size) (Nat.le_refl _)
      have s4 := b4.size
      try simp only [World.size_alloc, World.size_setCell, World.size_drew, size_drewN] at s4
      obtain ⟨zb_4, zd_4, zr_4, zx_4, rb_4, rz_4, bb_4⟩ : Blk w4 (w.heap.size) 26 [.slice A m c, .int .i64 ((bs.length : Nat) : Int)] ∧ Blk w4 (w.heap.size + 1) 62 [.int .i64 (p0 : Int), .int .i64 (p1 : Int), .int .u64 (q0 : Int), .int .u64 (q1 : Int)] ∧ Blk w4 (w.heap.size + 1 + 1) 26 [.slice none 0 0, .int .i64 0] ∧ Blk w4 (w.heap.size + 1 + 1 + 1) 62 [.int .i64 0, .int .i64 0, .int .u64 0, .int .u64 0] ∧ RowIn .u8 w4 (0) (w.heap.size) A m (pack bs) ∧ RowIn .u8 w4 (w3.heap.size + 0) (w4.heap.size) Az mz (pack xz) ∧ Below w.heap.size w w4 := by
        refine ⟨?_, ?_, ?_, ?_, ?_, ?_, ?_⟩
        all_goals repeat' (first | (with_reducible assumption) | (with_reducible exact Below.refl _ _) | (with_reducible refine Blk.after ?_ b4) | (with_reducible refine RowIn.belowS ?_ b4) | (with_reducible refine Below.after ?_ b4 ?_) | (with_reducible refine Blk.drewN ?_ _) | (with_reducible refine RowIn.drewN ?_ _) | (with_reducible refine below_drewN ?_ _) | (with_reducible refine Blk.drew ?_) | (with_reducible refine RowIn.drew ?_) | (with_reducible refine Below.drew ?_) | (with_reducible refine Blk.new' ?_ ?_ <;> first | (with_reducible rfl) | (simp; done)) | (with_reducible refine Blk.alloc ?_ _) | (with_reducible refine RowIn.alloc ?_ _) | (with_reducible refine Below.alloc ?_ ?_ _) | (with_reducible apply Blk.set') | (with_reducible apply Blk.far') | (with_reducible refine RowIn.far' ?_ ?_ _) | (with_reducible refine Below.far' ?_ ?_ _) | rfl | omega | go_size)
      clear zb_3 zd_3 zr_3 zx_3 rb_3 bb_3 kb_3 fb_3 lb_3 kd_3 fd_3 ld_3 kr_3 fr_3 lr_3 kx_3 fx_3 lx_3 b4
      have kb_4 := zb_4.cell; have fb_4 := zb_4.frozen; have lb_4 := zb_4.lt
      have kd_4 := zd_4.cell; have fd_4 := zd_4.frozen; have ld_4 := zd_4.lt
      have kr_4 := zr_4.cell; have fr_4 := zr_4.frozen; have lr_4 := zr_4.lt
      have kx_4 := zx_4.cell; have fx_4 := zx_4.frozen; have lx_4 := zx_4.lt
      clear rz
      clear hw
      rw [← HY.out] at h5
      have HP2 : Hid (rwR xz y ((p1 : Nat) : Int) = ([], 18)) := by
        unfold rwR; rw [if_neg (by omega), if_pos (by rw [Int.toNat_natCast]; omega)]; exact Lib.hid rfl
      have hw := fun W (hr : Row .u8 W Az mz (pack xz)) => rwrite_ret Az mz cz xz y ((p1 : Nat) : Int) W hr hcz (by omega) hy (by omega)
      rw [HP2.out] at hw
      replace hw := Lib.hid hw
      go_wp2_with fail
      refine (hw.out _ (by exact RowIn.row (lo := w3.heap.size + 0) (hi := w4.heap.size) (by repeat' (first | (with_reducible assumption) | (with_reducible exact Below.refl _ _) | (with_reducible refine Blk.drewN ?_ _) | (with_reducible refine RowIn.drewN ?_ _) | (with_reducible refine below_drewN ?_ _) | (with_reducible refine Blk.drew ?_) | (with_reducible refine RowIn.drew ?_) | (with_reducible refine Below.drew ?_) | (with_reducible refine Blk.new' ?_ ?_ <;> first | (with_reducible rfl) | (simp; done)) | (with_reducible refine Blk.alloc ?_ _) | (with_reducible refine RowIn.alloc ?_ _) | (with_reducible refine Below.alloc ?_ ?_ _) | (with_reducible apply Blk.set') | (with_reducible apply Blk.far') | (with_reducible refine RowIn.far' ?_ ?_ _) | (with_reducible refine Below.far' ?_ ?_ _) | rfl | omega | go_size)))).mono ?_
      rintro e w5 ⟨Aq, mq, cq, xq, rfl, hcq, rq, HXq, b5⟩
      replace rq := rq.mono (lo' := w4.heap.size + 0) (by go_size) (Nat.le_refl _)
      have s5 := b5.size
      try simp only [World.size_alloc, World.size_setCell, World.size_drew, size_drewN] at s5
      obtain ⟨zb_5, zd_5, zr_5, zx_5, rz_5, rq_5, bb_5⟩ : Blk w5 (w.heap.size) 26 [.slice Az mz cz, .int .i64 ((xz.length : Nat) : Int)] ∧ Blk w5 (w.heap.size + 1) 62 [.int .i64 (p0 : Int), .int .i64 (p1 : Int), .int .u64 (q0 : Int), .int .u64 (q1 : Int)] ∧ Blk w5 (w.heap.size + 1 + 1) 26 [.slice none 0 0, .int .i64 0] ∧ Blk w5 (w.heap.size + 1 + 1 + 1) 62 [.int .i64 0, .int .i64 0, .int .u64 0, .int .u64 0] ∧ RowIn .u8 w5 (w3.heap.size + 0) (w4.heap.size) Az mz (pack xz) ∧ RowIn .u8 w5 (w4.heap.size + 0) (w5.heap.size) Aq mq (pack xq) ∧ Below w.heap.size w w5 := by
        refine ⟨?_, ?_, ?_, ?_, ?_, ?_, ?_⟩
        all_goals repeat' (first | (with_reducible assumption) | (with_reducible exact Below.refl _ _) | (with_reducible refine Blk.after ?_ b5) | (with_reducible refine RowIn.belowS ?_ b5) | (with_reducible refine Below.after ?_ b5 ?_) | (with_reducible refine Blk.drewN ?_ _) | (with_reducible refine RowIn.drewN ?_ _) | (with_reducible refine below_drewN ?_ _) | (with_reducible refine Blk.drew ?_) | (with_reducible refine RowIn.drew ?_) | (with_reducible refine Below.drew ?_) | (with_reducible refine Blk.new' ?_ ?_ <;> first | (with_reducible rfl) | (simp; done)) | (with_reducible refine Blk.alloc ?_ _) | (with_reducible refine RowIn.alloc ?_ _) | (with_reducible refine Below.alloc ?_ ?_ _) | (with_reducible apply Blk.set') | (with_reducible apply Blk.far') | (with_reducible refine RowIn.far' ?_ ?_ _) | (with_reducible refine Below.far' ?_ ?_ _) | rfl | omega | go_size)
      clear zb_4 zd_4 zr_4 zx_4 rb_4 rz_4 bb_4 kb_4 fb_4 lb_4 kd_4 fd_4 ld_4 kr_4 fr_4 lr_4 kx_4 fx_4 lx_4 b5
      have kb_5 := zb_5.cell; have fb_5 := zb_5.frozen; have lb_5 := zb_5.lt
      have kd_5 := zd_5.cell; have fd_5 := zd_5.frozen; have ld_5 := zd_5.lt
      have kr_5 := zr_5.cell; have fr_5 := zr_5.frozen; have lr_5 := zr_5.lt
      have kx_5 := zx_5.cell; have fx_5 := zx_5.frozen; have lx_5 := zx_5.lt
      clear rq
      clear hw
      go_wp2
      refine bodyPost_ret (v := .tuple #[.agg #[.slice none 0 0, .int .i64 0], .agg #[.int .i64 0, .int .i64 0, .int .u64 0, .int .u64 0], .int .i64 18]) (by simp [results, Tryd.results47, go_sem, kr_5, lr_5, kx_5, lx_5]) rfl ?_
      rw [HR.out]
      refine ⟨none, 0, 0, [], 0, 0, 0, 0, rfl, ⟨Nat.le_refl _, Nat.zero_le _⟩, RowIn.nil, Lib.hid rfl, Lib.hid rfl, ?_⟩
      repeat' (first | (with_reducible assumption) | (with_reducible exact Below.refl _ _) | (with_reducible refine Blk.drewN ?_ _) | (with_reducible refine RowIn.drewN ?_ _) | (with_reducible refine below_drewN ?_ _) | (with_reducible refine Blk.drew ?_) | (with_reducible refine RowIn.drew ?_) | (with_reducible refine Below.drew ?_) | (with_reducible refine Blk.new' ?_ ?_ <;> first | (with_reducible rfl) | (simp; done)) | (with_reducible refine Blk.alloc ?_ _) | (with_reducible refine RowIn.alloc ?_ _) | (with_reducible refine Below.alloc ?_ ?_ _) | (with_reducible apply Blk.set') | (with_reducible apply Blk.far') | (with_reducible refine RowIn.far' ?_ ?_ _) | (with_reducible refine Below.far' ?_ ?_ _) | rfl | omega | go_size)
    · have HR : Hid (dwR bs ⟨p0, p1, q0, q1⟩ v = (bs ++ codeD ⟨p0, p1, q0, q1⟩ v, learn ⟨p0, p1, q0, q1⟩ v, 0)) := by unfold dwR; rw [if_neg (by have := HLD.out; omega)]; exact Lib.hid rfl
      go_enter Tryd.func47, Tryd.ntmps47
      go_wp2_with fail
      refine (bcheck_ok A m c bs _ (by exact RowIn.row (lo := 0) (hi := w.heap.size) (by repeat' (first | (with_reducible assumption) | (with_reducible exact Below.refl _ _) | (with_reducible refine Blk.drewN ?_ _) | (with_reducible refine RowIn.drewN ?_ _) | (with_reducible refine below_drewN ?_ _) | (with_reducible refine Blk.drew ?_) | (with_reducible refine RowIn.drew ?_) | (with_reducible refine Below.drew ?_) | (with_reducible refine Blk.new' ?_ ?_ <;> first | (with_reducible rfl) | (simp; done)) | (with_reducible refine Blk.alloc ?_ _) | (with_reducible refine RowIn.alloc ?_ _) | (with_reducible refine Below.alloc ?_ ?_ _) | (with_reducible apply Blk.set') | (with_reducible apply Blk.far') | (with_reducible refine RowIn.far' ?_ ?_ _) | (with_reducible refine Below.far' ?_ ?_ _) | rfl | omega | go_size))) (by omega) hl).mono ?_
      rintro e w1 ⟨rfl, b1⟩
      have s1 := b1.size
      try simp only [World.size_alloc, World.size_setCell, World.size_drew, size_drewN] at s1
      obtain ⟨zb_1, zd_1, zr_1, zx_1, rb_1, bb_1⟩ : Blk w1 (w.heap.size) 26 [.slice A m c, .int .i64 ((bs.length : Nat) : Int)] ∧ Blk w1 (w.heap.size + 1) 62 [.int .i64 (p0 : Int), .int .i64 (p1 : Int), .int .u64 (q0 : Int), .int .u64 (q1 : Int)] ∧ Blk w1 (w.heap.size + 1 + 1) 26 [.slice none 0 0, .int .i64 0] ∧ Blk w1 (w.heap.size + 1 + 1 + 1) 62 [.int .i64 0, .int .i64 0, .int .u64 0, .int .u64 0] ∧ RowIn .u8 w1 (0) (w.heap.size) A m (pack bs) ∧ Below w.heap.size w w1 := by
        refine ⟨?_, ?_, ?_, ?_, ?_, ?_⟩
        all_goals repeat' (first | (with_reducible assumption) | (with_reducible exact Below.refl _ _) | (with_reducible refine Blk.after ?_ b1) | (with_reducible refine RowIn.belowS ?_ b1) | (with_reducible refine Below.after ?_ b1 ?_) | (with_reducible refine Blk.drewN ?_ _) | (with_reducible refine RowIn.drewN ?_ _) | (with_reducible refine below_drewN ?_ _) | (with_reducible refine Blk.drew ?_) | (with_reducible refine RowIn.drew ?_) | (with_reducible refine Below.drew ?_) | (with_reducible refine Blk.new' ?_ ?_ <;> first | (with_reducible rfl) | (simp; done)) | (with_reducible refine Blk.alloc ?_ _) | (with_reducible refine RowIn.alloc ?_ _) | (with_reducible refine Below.alloc ?_ ?_ _) | (with_reducible apply Blk.set') | (with_reducible apply Blk.far') | (with_reducible refine RowIn.far' ?_ ?_ _) | (with_reducible refine Below.far' ?_ ?_ _) | rfl | omega | go_size)
      clear b1
      have kb_1 := zb_1.cell; have fb_1 := zb_1.frozen; have lb_1 := zb_1.lt
      have kd_1 := zd_1.cell; have fd_1 := zd_1.frozen; have ld_1 := zd_1.lt
      have kr_1 := zr_1.cell; have fr_1 := zr_1.frozen; have lr_1 := zr_1.lt
      have kx_1 := zx_1.cell; have fx_1 := zx_1.frozen; have lx_1 := zx_1.lt
      go_wp2_with fail
      refine (dcheck_ok p0 p1 q0 q1 _ hd).mono ?_
      rintro e w2 ⟨rfl, b2⟩
      have s2 := b2.size
      try simp only [World.size_alloc, World.size_setCell, World.size_drew, size_drewN] at s2
      obtain ⟨zb_2, zd_2, zr_2, zx_2, rb_2, bb_2⟩ : Blk w2 (w.heap.size) 26 [.slice A m c, .int .i64 ((bs.length : Nat) : Int)] ∧ Blk w2 (w.heap.size + 1) 62 [.int .i64 (p0 : Int), .int .i64 (p1 : Int), .int .u64 (q0 : Int), .int .u64 (q1 : Int)] ∧ Blk w2 (w.heap.size + 1 + 1) 26 [.slice none 0 0, .int .i64 0] ∧ Blk w2 (w.heap.size + 1 + 1 + 1) 62 [.int .i64 0, .int .i64 0, .int .u64 0, .int .u64 0] ∧ RowIn .u8 w2 (0) (w.heap.size) A m (pack bs) ∧ Below w.heap.size w w2 := by
        refine ⟨?_, ?_, ?_, ?_, ?_, ?_⟩
        all_goals repeat' (first | (with_reducible assumption) | (with_reducible exact Below.refl _ _) | (with_reducible refine Blk.after ?_ b2) | (with_reducible refine RowIn.belowS ?_ b2) | (with_reducible refine Below.after ?_ b2 ?_) | (with_reducible refine Blk.drewN ?_ _) | (with_reducible refine RowIn.drewN ?_ _) | (with_reducible refine below_drewN ?_ _) | (with_reducible refine Blk.drew ?_) | (with_reducible refine RowIn.drew ?_) | (with_reducible refine Below.drew ?_) | (with_reducible refine Blk.new' ?_ ?_ <;> first | (with_reducible rfl) | (simp; done)) | (with_reducible refine Blk.alloc ?_ _) | (with_reducible refine RowIn.alloc ?_ _) | (with_reducible refine Below.alloc ?_ ?_ _) | (with_reducible apply Blk.set') | (with_reducible apply Blk.far') | (with_reducible refine RowIn.far' ?_ ?_ _) | (with_reducible refine Below.far' ?_ ?_ _) | rfl | omega | go_size)
      clear zb_1 zd_1 zr_1 zx_1 rb_1 bb_1 kb_1 fb_1 lb_1 kd_1 fd_1 ld_1 kr_1 fr_1 lr_1 kx_1 fx_1 lx_1 b2
      have kb_2 := zb_2.cell; have fb_2 := zb_2.frozen; have lb_2 := zb_2.lt
      have kd_2 := zd_2.cell; have fd_2 := zd_2.frozen; have ld_2 := zd_2.lt
      have kr_2 := zr_2.cell; have fr_2 := zr_2.frozen; have lr_2 := zr_2.lt
      have kx_2 := zx_2.cell; have fx_2 := zx_2.frozen; have lx_2 := zx_2.lt
      go_wp2_with fail
      refine (dlevel_high p0 p1 q0 q1 v _ hd0 hv h).mono ?_
      rintro e w3 ⟨y, rfl, HY, b3⟩
      have s3 := b3.size
      try simp only [World.size_alloc, World.size_setCell, World.size_drew, size_drewN] at s3
      obtain ⟨zb_3, zd_3, zr_3, zx_3, rb_3, bb_3⟩ : Blk w3 (w.heap.size) 26 [.slice A m c, .int .i64 ((bs.length : Nat) : Int)] ∧ Blk w3 (w.heap.size + 1) 62 [.int .i64 (p0 : Int), .int .i64 (p1 : Int), .int .u64 (q0 : Int), .int .u64 (q1 : Int)] ∧ Blk w3 (w.heap.size + 1 + 1) 26 [.slice none 0 0, .int .i64 0] ∧ Blk w3 (w.heap.size + 1 + 1 + 1) 62 [.int .i64 0, .int .i64 0, .int .u64 0, .int .u64 0] ∧ RowIn .u8 w3 (0) (w.heap.size) A m (pack bs) ∧ Below w.heap.size w w3 := by
        refine ⟨?_, ?_, ?_, ?_, ?_, ?_⟩
        all_goals repeat' (first | (with_reducible assumption) | (with_reducible exact Below.refl _ _) | (with_reducible refine Blk.after ?_ b3) | (with_reducible refine RowIn.belowS ?_ b3) | (with_reducible refine Below.after ?_ b3 ?_) | (with_reducible refine Blk.drewN ?_ _) | (with_reducible refine RowIn.drewN ?_ _) | (with_reducible refine below_drewN ?_ _) | (with_reducible refine Blk.drew ?_) | (with_reducible refine RowIn.drew ?_) | (with_reducible refine Below.drew ?_) | (with_reducible refine Blk.new' ?_ ?_ <;> first | (with_reducible rfl) | (simp; done)) | (with_reducible refine Blk.alloc ?_ _) | (with_reducible refine RowIn.alloc ?_ _) | (with_reducible refine Below.alloc ?_ ?_ _) | (with_reducible apply Blk.set') | (with_reducible apply Blk.far') | (with_reducible refine RowIn.far' ?_ ?_ _) | (with_reducible refine Below.far' ?_ ?_ _) | rfl | omega | go_size)
      clear zb_2 zd_2 zr_2 zx_2 rb_2 bb_2 kb_2 fb_2 lb_2 kd_2 fd_2 ld_2 kr_2 fr_2 lr_2 kx_2 fx_2 lx_2 b3
      have kb_3 := zb_3.cell; have fb_3 := zb_3.frozen; have lb_3 := zb_3.lt
      have kd_3 := zd_3.cell; have fd_3 := zd_3.frozen; have ld_3 := zd_3.lt
      have kr_3 := zr_3.cell; have fr_3 := zr_3.frozen; have lr_3 := zr_3.lt
      have kx_3 := zx_3.cell; have fx_3 := zx_3.frozen; have lx_3 := zx_3.lt
      have hy : y < 4294967296 := by rw [HY.out]; exact Nat.lt_of_le_of_lt (Nat.sub_le _ _) hv
      have hw := bput_ret A m c bs (1 : Int) (1 : Int) w3 rb_3.row hc hl (by omega) (by omega)
      rw [HP.out] at hw
      replace hw := Lib.hid hw
      go_wp2_with fail
      refine (hw.out).mono ?_
      rintro e w4 ⟨Az, mz, cz, xz, rfl, hcz, rz, HXz, b4⟩
      have Lz : xz.length ≤ bs.length + 1 ∧ bs.length + 1 ≤ xz.length := by rw [HXz.out]; rw [List.length_append]; simp
      obtain ⟨Lz1, Lz2⟩ := Lz
      replace rz := rz.mono (lo' := w3.heap.size + 0) (by go_size) (Nat.le_refl _)
      have s4 := b4.size
      try simp only [World.size_alloc, World.size_setCell, World.size_drew, size_drewN] at s4
      obtain ⟨zb_4, zd_4, zr_4, zx_4, rb_4, rz_4, bb_4⟩ : Blk w4 (w.heap.size) 26 [.slice A m c, .int .i64 ((bs.length : Nat) : Int)] ∧ Blk w4 (w.heap.size + 1) 62 [.int .i64 (p0 : Int), .int .i64 (p1 : Int), .int .u64 (q0 : Int), .int .u64 (q1 : Int)] ∧ Blk w4 (w.heap.size + 1 + 1) 26 [.slice none 0 0, .int .i64 0] ∧ Blk w4 (w.heap.size + 1 + 1 + 1) 62 [.int .i64 0, .int .i64 0, .int .u64 0, .int .u64 0] ∧ RowIn .u8 w4 (0) (w.heap.size) A m (pack bs) ∧ RowIn .u8 w4 (w3.heap.size + 0) (w4.heap.size) Az mz (pack xz) ∧ Below w.heap.size w w4 := by
        refine ⟨?_, ?_, ?_, ?_, ?_, ?_, ?_⟩
        all_goals repeat' (first | (with_reducible assumption) | (with_reducible exact Below.refl _ _) | (with_reducible refine Blk.after ?_ b4) | (with_reducible refine RowIn.belowS ?_ b4) | (with_reducible refine Below.after ?_ b4 ?_) | (with_reducible refine Blk.drewN ?_ _) | (with_reducible refine RowIn.drewN ?_ _) | (with_reducible refine below_drewN ?_ _) | (with_reducible refine Blk.drew ?_) | (with_reducible refine RowIn.drew ?_) | (with_reducible refine Below.drew ?_) | (with_reducible refine Blk.new' ?_ ?_ <;> first | (with_reducible rfl) | (simp; done)) | (with_reducible refine Blk.alloc ?_ _) | (with_reducible refine RowIn.alloc ?_ _) | (with_reducible refine Below.alloc ?_ ?_ _) | (with_reducible apply Blk.set') | (with_reducible apply Blk.far') | (with_reducible refine RowIn.far' ?_ ?_ _) | (with_reducible refine Below.far' ?_ ?_ _) | rfl | omega | go_size)
      clear zb_3 zd_3 zr_3 zx_3 rb_3 bb_3 kb_3 fb_3 lb_3 kd_3 fd_3 ld_3 kr_3 fr_3 lr_3 kx_3 fx_3 lx_3 b4
      have kb_4 := zb_4.cell; have fb_4 := zb_4.frozen; have lb_4 := zb_4.lt
      have kd_4 := zd_4.cell; have fd_4 := zd_4.frozen; have ld_4 := zd_4.lt
      have kr_4 := zr_4.cell; have fr_4 := zr_4.frozen; have lr_4 := zr_4.lt
      have kx_4 := zx_4.cell; have fx_4 := zx_4.frozen; have lx_4 := zx_4.lt
      clear rz
      clear hw
      rw [← HY.out] at h5
      have HP2 : Hid (rwR xz y ((p1 : Nat) : Int) = (xz ++ rice y p1, 0)) := by
        unfold rwR; rw [if_neg (by omega), if_neg (by rw [Int.toNat_natCast]; omega)]; exact Lib.hid rfl
      have hw := fun W (hr : Row .u8 W Az mz (pack xz)) => rwrite_ret Az mz cz xz y ((p1 : Nat) : Int) W hr hcz (by omega) hy (by omega)
      rw [HP2.out] at hw
      replace hw := Lib.hid hw
      go_wp2_with fail
      refine (hw.out _ (by exact RowIn.row (lo := w3.heap.size + 0) (hi := w4.heap.size) (by repeat' (first | (with_reducible assumption) | (with_reducible exact Below.refl _ _) | (with_reducible refine Blk.drewN ?_ _) | (with_reducible refine RowIn.drewN ?_ _) | (with_reducible refine below_drewN ?_ _) | (with_reducible refine Blk.drew ?_) | (with_reducible refine RowIn.drew ?_) | (with_reducible refine Below.drew ?_) | (with_reducible refine Blk.new' ?_ ?_ <;> first | (with_reducible rfl) | (simp; done)) | (with_reducible refine Blk.alloc ?_ _) | (with_reducible refine RowIn.alloc ?_ _) | (with_reducible refine Below.alloc ?_ ?_ _) | (with_reducible apply Blk.set') | (with_reducible apply Blk.far') | (with_reducible refine RowIn.far' ?_ ?_ _) | (with_reducible refine Below.far' ?_ ?_ _) | rfl | omega | go_size)))).mono ?_
      rintro e w5 ⟨Aq, mq, cq, xq, rfl, hcq, rq, HXq, b5⟩
      replace rq := rq.mono (lo' := w4.heap.size + 0) (by go_size) (Nat.le_refl _)
      have s5 := b5.size
      try simp only [World.size_alloc, World.size_setCell, World.size_drew, size_drewN] at s5
      obtain ⟨zb_5, zd_5, zr_5, zx_5, rz_5, rq_5, bb_5⟩ : Blk w5 (w.heap.size) 26 [.slice Az mz cz, .int .i64 ((xz.length : Nat) : Int)] ∧ Blk w5 (w.heap.size + 1) 62 [.int .i64 (p0 : Int), .int .i64 (p1 : Int), .int .u64 (q0 : Int), .int .u64 (q1 : Int)] ∧ Blk w5 (w.heap.size + 1 + 1) 26 [.slice none 0 0, .int .i64 0] ∧ Blk w5 (w.heap.size + 1 + 1 + 1) 62 [.int .i64 0, .int .i64 0, .int .u64 0, .int .u64 0] ∧ RowIn .u8 w5 (w3.heap.size + 0) (w4.heap.size) Az mz (pack xz) ∧ RowIn .u8 w5 (w4.heap.size + 0) (w5.heap.size) Aq mq (pack xq) ∧ Below w.heap.size w w5 := by
        refine ⟨?_, ?_, ?_, ?_, ?_, ?_, ?_⟩
        all_goals repeat' (first | (with_reducible assumption) | (with_reducible exact Below.refl _ _) | (with_reducible refine Blk.after ?_ b5) | (with_reducible refine RowIn.belowS ?_ b5) | (with_reducible refine Below.after ?_ b5 ?_) | (with_reducible refine Blk.drewN ?_ _) | (with_reducible refine RowIn.drewN ?_ _) | (with_reducible refine below_drewN ?_ _) | (with_reducible refine Blk.drew ?_) | (with_reducible refine RowIn.drew ?_) | (with_reducible refine Below.drew ?_) | (with_reducible refine Blk.new' ?_ ?_ <;> first | (with_reducible rfl) | (simp; done)) | (with_reducible refine Blk.alloc ?_ _) | (with_reducible refine RowIn.alloc ?_ _) | (with_reducible refine Below.alloc ?_ ?_ _) | (with_reducible apply Blk.set') | (with_reducible apply Blk.far') | (with_reducible refine RowIn.far' ?_ ?_ _) | (with_reducible refine Below.far' ?_ ?_ _) | rfl | omega | go_size)
      clear zb_4 zd_4 zr_4 zx_4 rb_4 rz_4 bb_4 kb_4 fb_4 lb_4 kd_4 fd_4 ld_4 kr_4 fr_4 lr_4 kx_4 fx_4 lx_4 b5
      have kb_5 := zb_5.cell; have fb_5 := zb_5.frozen; have lb_5 := zb_5.lt
      have kd_5 := zd_5.cell; have fd_5 := zd_5.frozen; have ld_5 := zd_5.lt
      have kr_5 := zr_5.cell; have fr_5 := zr_5.frozen; have lr_5 := zr_5.lt
      have kx_5 := zx_5.cell; have fx_5 := zx_5.frozen; have lx_5 := zx_5.lt
      clear rq
      clear hw
      go_wp2_with fail
      obtain ⟨w6, hw6⟩ : ∃ w6, w6 = (w5.setCell ⟨w.heap.size, 0, none⟩ (.slice Aq mq cq)).setCell ⟨w.heap.size, 1, none⟩ (.int .i64 ((xq.length : Nat) : Int)) := ⟨_, rfl⟩
      have s6 : w5.heap.size ≤ w6.heap.size := by rw [hw6]; simp only [World.size_setCell]; exact Nat.le_refl _
      obtain ⟨zb6, zd6, zr6, zx6, rq6, bb6⟩ : Blk w6 w.heap.size 26 [.slice Aq mq cq, .int .i64 ((xq.length : Nat) : Int)] ∧ Blk w6 (w.heap.size + 1) 62 [.int .i64 (p0 : Int), .int .i64 (p1 : Int), .int .u64 (q0 : Int), .int .u64 (q1 : Int)] ∧ Blk w6 (w.heap.size + 1 + 1) 26 [.slice none 0 0, .int .i64 0] ∧ Blk w6 (w.heap.size + 1 + 1 + 1) 62 [.int .i64 0, .int .i64 0, .int .u64 0, .int .u64 0] ∧ RowIn .u8 w6 (w4.heap.size + 0) w5.heap.size Aq mq (pack xq) ∧ Below w.heap.size w w6 := by
        rw [hw6]
        refine ⟨?_, ?_, ?_, ?_, ?_, ?_⟩
        all_goals repeat' (first | (with_reducible assumption) | (with_reducible exact Below.refl _ _) | (with_reducible refine Blk.drewN ?_ _) | (with_reducible refine RowIn.drewN ?_ _) | (with_reducible refine below_drewN ?_ _) | (with_reducible refine Blk.drew ?_) | (with_reducible refine RowIn.drew ?_) | (with_reducible refine Below.drew ?_) | (with_reducible refine Blk.new' ?_ ?_ <;> first | (with_reducible rfl) | (simp; done)) | (with_reducible refine Blk.alloc ?_ _) | (with_reducible refine RowIn.alloc ?_ _) | (with_reducible refine Below.alloc ?_ ?_ _) | (with_reducible apply Blk.set') | (with_reducible apply Blk.far') | (with_reducible refine RowIn.far' ?_ ?_ _) | (with_reducible refine Below.far' ?_ ?_ _) | rfl | omega | go_size)
      rw [← hw6]
      clear hw6
      refine (dlearn_any (w.heap.size + 1) p0 p1 q0 q1 v _ hd hv zd6).mono ?_
      rintro e w9 ⟨u0, u1, v0, v1, rfl, HA, zd9, fr9⟩
      have zb9 := zb6.frm fr9 (by omega)
      have zr9 := zr6.frm fr9 (by omega)
      have zx9 := zx6.frm fr9 (by omega)
      have rq9 := RowIn.frm rq6 fr9 (fun j h1 h2 => by omega)
      have bb9 : Below w.heap.size w w9 := bb6.trans (fr9.below bb6.size (fun k hk h => by omega))
      have s9 := fr9.size
      clear zb_5 zd_5 zr_5 zx_5 rz_5 rq_5 bb_5 kb_5 fb_5 lb_5 kd_5 fd_5 ld_5 kr_5 fr_5 lr_5 kx_5 fx_5 lx_5 zb6 zd6 zr6 zx6 rq6 bb6
      have kb9 := zb9.cell; have lb9 := zb9.lt; have kd9 := zd9.cell; have ld9 := zd9.lt; have kr9 := zr9.cell; have fr9b := zr9.frozen; have lr9 := zr9.lt; have kx9 := zx9.cell; have fx9 := zx9.frozen; have lx9 := zx9.lt
      go_wp2_with fail
      go_region
      all_goals
        go_wp2
        refine bodyPost_ret (v := .tuple #[.agg #[.slice Aq mq cq, .int .i64 ((xq.length : Nat) : Int)], .agg #[.int .i64 (u0 : Int), .int .i64 (u1 : Int), .int .u64 (v0 : Int), .int .u64 (v1 : Int)], .int .i64 0]) (by simp [results, Tryd.results47, go_sem, kr9, lr9, kx9, lx9]) rfl ?_
        rw [HR.out]
        refine ⟨Aq, mq, cq, xq, u0, u1, v0, v1, rfl, hcq, ?_, ?_, HA, ?_⟩
        · refine RowIn.mono (lo := w4.heap.size + 0) (hi := w5.heap.size) ?_ (by omega) (by go_size)
          repeat' (first | (with_reducible assumption) | (with_reducible exact Below.refl _ _) | (with_reducible refine Blk.drewN ?_ _) | (with_reducible refine RowIn.drewN ?_ _) | (with_reducible refine below_drewN ?_ _) | (with_reducible refine Blk.drew ?_) | (with_reducible refine RowIn.drew ?_) | (with_reducible refine Below.drew ?_) | (with_reducible refine Blk.new' ?_ ?_ <;> first | (with_reducible rfl) | (simp; done)) | (with_reducible refine Blk.alloc ?_ _) | (with_reducible refine RowIn.alloc ?_ _) | (with_reducible refine Below.alloc ?_ ?_ _) | (with_reducible apply Blk.set') | (with_reducible apply Blk.far') | (with_reducible refine RowIn.far' ?_ ?_ _) | (with_reducible refine Below.far' ?_ ?_ _) | rfl | omega | go_size)
        · rw [HXq.out, HXz.out, HCD.out, List.append_assoc]; rw [HY.out]; exact Lib.hid rfl
        · repeat' (first | (with_reducible assumption) | (with_reducible exact Below.refl _ _) | (with_reducible refine Blk.drewN ?_ _) | (with_reducible refine RowIn.drewN ?_ _) | (with_reducible refine below_drewN ?_ _) | (with_reducible refine Blk.drew ?_) | (with_reducible refine RowIn.drew ?_) | (with_reducible refine Below.drew ?_) | (with_reducible refine Blk.new' ?_ ?_ <;> first | (with_reducible rfl) | (simp; done)) | (with_reducible refine Blk.alloc ?_ _) | (with_reducible refine RowIn.alloc ?_ _) | (with_reducible refine Below.alloc ?_ ?_ _) | (with_reducible apply Blk.set') | (with_reducible apply Blk.far') | (with_reducible refine RowIn.far' ?_ ?_ _) | (with_reducible refine Below.far' ?_ ?_ _) | rfl | omega | go_size)


end Go.Proofs.YtpohaikbbfochaaDoor

/-
  Bytes as a string.
-/
namespace Cad
open Go Go.RowKit
set_option linter.unusedVariables false

theorem run_str {P : Program} {src dst e : TypeId} (hs : P.underlying src = some (.slice e)) (he : P.underlying e = some (.int .u8)) (hd : P.underlying dst = some .string) {w : World} {A : Option Addr} {n : Nat} (c : Nat) {xs : List Int} (h : Row .u8 w A n xs) :
    (convert src dst (.slice A n c)).run P w = .ok (.string (strOfNums xs)) w := by
  by_cases hn : 0 < n
  · obtain ⟨b, off, rfl, _, hc⟩ := h.at hn
    exact run_convert_bytes_arg w src e hs he b off n c xs h.len (fun i hi => by rw [hc i hi]; rfl) dst hd
  · obtain rfl : n = 0 := by omega
    have hx : xs = [] := List.eq_nil_of_length_eq_zero h.len
    subst hx
    cases A with
    | none => exact run_convert_bytes_nil w src e hs he 0 c dst hd
    | some ad =>
      rw [run_convert_bytes_string w src dst e _ 0 c hs he hd]
      have hl : (loadCells ad 0).run P w = .ok (([] : List Int).map (Value.int .u8)).toArray w := by
        have := run_loadCells_list (P := P) w ad [] (fun j v hj => by simp at hj)
        simpa using this
      rw [run_bytesToString w ad 0 c [] hl]
      rfl

theorem strOfNums_inj {xs ys : List Int} (hx : Within 0 255 xs) (hy : Within 0 255 ys) (h : strOfNums xs = strOfNums ys) : xs = ys := by
  have h1 : (xs.map fun n => UInt8.ofNat n.toNat) = (ys.map fun n => UInt8.ofNat n.toNat) := by
    have := congrArg (fun s : ByteArray => s.data.toList) h
    simpa [strOfNums] using this
  have hl : xs.length = ys.length := by have := congrArg List.length h1; simpa using this
  apply List.ext_getElem hl
  intro i p q
  have e := congrArg (fun l : List UInt8 => l[i]?) h1
  simp only [List.getElem?_map, List.getElem?_eq_getElem p, List.getElem?_eq_getElem q, Option.map_some, Option.some.injEq] at e
  have a := hx _ (List.getElem_mem p)
  have b := hy _ (List.getElem_mem q)
  have e2 := congrArg UInt8.toNat e
  rw [UInt8.toNat_ofNat', UInt8.toNat_ofNat'] at e2
  omega
theorem strOfNums_iff {xs ys : List Int} (hx : Within 0 255 xs) (hy : Within 0 255 ys) : strOfNums xs = strOfNums ys ↔ xs = ys := ⟨strOfNums_inj hx hy, fun h => by rw [h]⟩

theorem str_eq {xs ys : List Int} (hx : Within 0 255 xs) (hy : Within 0 255 ys) : ((strOfNums xs).toList == (strOfNums ys).toList) = decide (xs = ys) := by
  by_cases h : xs = ys
  · subst h; simp
  · rw [decide_eq_false h]
    refine beq_eq_false_iff_ne.2 (fun e => h (strOfNums_inj hx hy ?_))
    rw [Lib.strOfNums_toList, Lib.strOfNums_toList] at e
    show ByteArray.mk _ = ByteArray.mk _
    congr 1
    exact congrArg List.toArray e
/-- Bytes, as a string, against bytes that are written out. -/
theorem str_lit {xs : List Int} {l : List UInt8} (hx : Within 0 255 xs) : ((strOfNums xs).toList == l) = decide (xs = l.map fun b => (b.toNat : Int)) := by
  rw [Lib.strOfNums_toList, Bool.eq_iff_iff, beq_iff_eq, decide_eq_true_iff]
  constructor
  · intro e
    subst e
    apply List.ext_getElem (by simp [Lib.bytesOf])
    intro i p q
    have a := hx _ (List.getElem_mem p)
    simp only [Lib.bytesOf, List.getElem_map]
    rw [UInt8.toNat_ofNat']
    omega
  · intro e
    subst e
    apply List.ext_getElem (by simp [Lib.bytesOf])
    intro i p q
    simp [Lib.bytesOf]

end Cad
