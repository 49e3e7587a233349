/-
  Contracts of learning.
-/
import Derived.Test.YtpohaikbbfochaaDualA
namespace Go.Proofs.Ytpohaikbbfochaa
open Go.RowKit Cad Cad.Bit Cad.Code
set_option linter.unusedVariables false
set_option linter.unusedSimpArgs false

theorem Frm.gset {a w : World} {g i : Nat} (h : Frm (fun k => k = g) a w) (u : Value) : Frm (fun k => k = g) a (w.setCell ⟨g, i, none⟩ u) := h.setCell (p := ⟨g, i, none⟩) (fun _ => rfl) u
theorem sum_wrap {s n d : Nat} (hs : s ≤ 68719476735) (hn : n < 4294967296) (hd : d = s / 16) : IntKind.u64.wrap ((s : Int) + IntKind.u64.wrap ((n : Int) - (d : Int))) = ((sumOf s n : Nat) : Int) := by
  unfold sumOf
  rw [IntKind.wrap_u64, IntKind.wrap_u64]; omega


set_option maxRecDepth 100000 in
set_option maxHeartbeats 400000 in
theorem dpair0 (g k0 k1 s0 s1 n : Nat) (w : World) (hk : k0 ≤ 24) (hs : s0 ≤ 68719476735) (hn : n < 4294967296) (hb : Blk w g 46 [.int .i64 (k0 : Int), .int .i64 (k1 : Int), .int .u64 (s0 : Int), .int .u64 (s1 : Int)]) :
    Calls Try.prog 52 #[.pointer (some ⟨g, 0, none⟩), .pointer (some ⟨g, 2, none⟩), .int .u32 (n : Int)] w fun e w' => ∃ k' s' : Nat, e = .returned (.tuple #[]) ∧ Hid (s' = sumOf s0 n) ∧ Hid (k' = kOf k0 s') ∧ Blk w' g 46 [.int .i64 (k' : Int), .int .i64 (k1 : Int), .int .u64 (s' : Int), .int .u64 (s1 : Int)] ∧ Frm (fun k => k = g) w w' := by
  have kc := hb.cell; have kf := hb.frozen; have kl := hb.lt
  obtain ⟨d, hd⟩ : ∃ d, d = s0 / 16 := ⟨_, rfl⟩
  have hdi : (s0 : Int) / 16 = (d : Int) := by omega
  obtain ⟨t, ht⟩ : ∃ t, t = sumOf s0 n := ⟨_, rfl⟩
  have hw := sum_wrap hs hn hd
  rw [← ht] at hw
  have ht2 : t ≤ 73014444031 := by rw [ht]; unfold sumOf; omega
  have HT := Lib.hid ht
  obtain ⟨p, hp⟩ : ∃ p, p = 2 ^ k0 := ⟨_, rfl⟩
  have hp2 : p ≤ 16777216 := by rw [hp]; exact Nat.le_trans (Nat.pow_le_pow_right (by omega) hk) (by decide)
  have hpi : (2 : Int) ^ k0 = (p : Int) := by rw [hp, pow_cast]
  have HP := Lib.hid hp
  clear hd ht hp
  by_cases hk0 : 0 < k0
  · have t1 : decide (0 < (k0 : Int)) = true := decide_eq_true (by omega)
    by_cases h16 : t < 16 * p
    · have t2 : decide ((t : Int) < 16 * (p : Int)) = true := decide_eq_true (by omega)
      have HK : Hid (k0 - 1 = kOf k0 t) := Lib.hid (by unfold kOf; rw [if_pos ⟨by omega, by rw [← HP.out]; omega⟩])
      go_enter Try.func52, Try.ntmps52
      go_wp2_with fail
      go_region
      all_goals
        go_wp2_with fail
        go_region
        all_goals
          go_wp2_with fail
          go_end0
          refine ⟨k0 - 1, t, rfl, HT, HK, ?_, ?_⟩
          · have e : ((k0 - 1 : Nat) : Int) = (k0 : Int) - 1 := (by omega); rw [e]
            repeat' (first | (with_reducible assumption) | (with_reducible exact Below.refl _ _) | (with_reducible refine Blk.drewN ?_ _) | (with_reducible refine RowIn.drewN ?_ _) | (with_reducible refine below_drewN ?_ _) | (with_reducible refine Blk.drew ?_) | (with_reducible refine RowIn.drew ?_) | (with_reducible refine Below.drew ?_) | (with_reducible refine Blk.new' ?_ ?_ <;> first | (with_reducible rfl) | (simp; done)) | (with_reducible refine Blk.alloc ?_ _) | (with_reducible refine RowIn.alloc ?_ _) | (with_reducible refine Below.alloc ?_ ?_ _) | (with_reducible apply Blk.set') | (with_reducible apply Blk.far') | (with_reducible refine RowIn.far' ?_ ?_ _) | (with_reducible refine Below.far' ?_ ?_ _) | rfl | omega | go_size)
          · repeat' (first | (with_reducible exact Frm.refl _ _) | (with_reducible refine Frm.drew ?_) | (with_reducible refine Frm.gset ?_ _))
    · have t2 : decide ((t : Int) < 16 * (p : Int)) = false := decide_eq_false (by omega)
      by_cases h24 : k0 < 24
      · have t3 : decide ((k0 : Int) < 24) = true := decide_eq_true (by omega)
        by_cases h32 : 32 * p < t
        · have t4 : decide (32 * (p : Int) < (t : Int)) = true := decide_eq_true (by omega)
          have HK : Hid (k0 + 1 = kOf k0 t) := Lib.hid (by unfold kOf; rw [if_neg (by rw [← HP.out]; omega), if_pos ⟨by omega, by rw [← HP.out]; omega⟩])
          go_enter Try.func52, Try.ntmps52
          go_wp2_with fail
          go_region
          all_goals
            go_wp2_with fail
            go_region
            all_goals
              go_wp2_with fail
              go_region
              all_goals
                go_wp2_with fail
                go_end0
                refine ⟨k0 + 1, t, rfl, HT, HK, ?_, ?_⟩
                · have e : ((k0 + 1 : Nat) : Int) = (k0 : Int) + 1 := (by omega); rw [e]
                  repeat' (first | (with_reducible assumption) | (with_reducible exact Below.refl _ _) | (with_reducible refine Blk.drewN ?_ _) | (with_reducible refine RowIn.drewN ?_ _) | (with_reducible refine below_drewN ?_ _) | (with_reducible refine Blk.drew ?_) | (with_reducible refine RowIn.drew ?_) | (with_reducible refine Below.drew ?_) | (with_reducible refine Blk.new' ?_ ?_ <;> first | (with_reducible rfl) | (simp; done)) | (with_reducible refine Blk.alloc ?_ _) | (with_reducible refine RowIn.alloc ?_ _) | (with_reducible refine Below.alloc ?_ ?_ _) | (with_reducible apply Blk.set') | (with_reducible apply Blk.far') | (with_reducible refine RowIn.far' ?_ ?_ _) | (with_reducible refine Below.far' ?_ ?_ _) | rfl | omega | go_size)
                · repeat' (first | (with_reducible exact Frm.refl _ _) | (with_reducible refine Frm.drew ?_) | (with_reducible refine Frm.gset ?_ _))
        · have t4 : decide (32 * (p : Int) < (t : Int)) = false := decide_eq_false (by omega)
          have HK : Hid (k0 = kOf k0 t) := Lib.hid (by unfold kOf; rw [if_neg (by rw [← HP.out]; omega), if_neg (by rw [← HP.out]; omega)])
          go_enter Try.func52, Try.ntmps52
          go_wp2_with fail
          go_region
          all_goals
            go_wp2_with fail
            go_region
            all_goals
              go_wp2_with fail
              go_region
              all_goals
                go_wp2_with fail
                go_end0
                refine ⟨k0, t, rfl, HT, HK, ?_, ?_⟩
                · skip
                  repeat' (first | (with_reducible assumption) | (with_reducible exact Below.refl _ _) | (with_reducible refine Blk.drewN ?_ _) | (with_reducible refine RowIn.drewN ?_ _) | (with_reducible refine below_drewN ?_ _) | (with_reducible refine Blk.drew ?_) | (with_reducible refine RowIn.drew ?_) | (with_reducible refine Below.drew ?_) | (with_reducible refine Blk.new' ?_ ?_ <;> first | (with_reducible rfl) | (simp; done)) | (with_reducible refine Blk.alloc ?_ _) | (with_reducible refine RowIn.alloc ?_ _) | (with_reducible refine Below.alloc ?_ ?_ _) | (with_reducible apply Blk.set') | (with_reducible apply Blk.far') | (with_reducible refine RowIn.far' ?_ ?_ _) | (with_reducible refine Below.far' ?_ ?_ _) | rfl | omega | go_size)
                · repeat' (first | (with_reducible exact Frm.refl _ _) | (with_reducible refine Frm.drew ?_) | (with_reducible refine Frm.gset ?_ _))
      · have t3 : decide ((k0 : Int) < 24) = false := decide_eq_false (by omega)
        have HK : Hid (k0 = kOf k0 t) := Lib.hid (by unfold kOf; rw [if_neg (by rw [← HP.out]; omega), if_neg (by rw [← HP.out]; omega)])
        go_enter Try.func52, Try.ntmps52
        go_wp2_with fail
        go_region
        all_goals
          go_wp2_with fail
          go_region
          all_goals
            go_wp2_with fail
            go_region
            all_goals
              go_wp2_with fail
              go_end0
              refine ⟨k0, t, rfl, HT, HK, ?_, ?_⟩
              · skip
                repeat' (first | (with_reducible assumption) | (with_reducible exact Below.refl _ _) | (with_reducible refine Blk.drewN ?_ _) | (with_reducible refine RowIn.drewN ?_ _) | (with_reducible refine below_drewN ?_ _) | (with_reducible refine Blk.drew ?_) | (with_reducible refine RowIn.drew ?_) | (with_reducible refine Below.drew ?_) | (with_reducible refine Blk.new' ?_ ?_ <;> first | (with_reducible rfl) | (simp; done)) | (with_reducible refine Blk.alloc ?_ _) | (with_reducible refine RowIn.alloc ?_ _) | (with_reducible refine Below.alloc ?_ ?_ _) | (with_reducible apply Blk.set') | (with_reducible apply Blk.far') | (with_reducible refine RowIn.far' ?_ ?_ _) | (with_reducible refine Below.far' ?_ ?_ _) | rfl | omega | go_size)
              · repeat' (first | (with_reducible exact Frm.refl _ _) | (with_reducible refine Frm.drew ?_) | (with_reducible refine Frm.gset ?_ _))
  · have t1 : decide (0 < (k0 : Int)) = false := decide_eq_false (by omega)
    by_cases h24 : k0 < 24
    · have t3 : decide ((k0 : Int) < 24) = true := decide_eq_true (by omega)
      by_cases h32 : 32 * p < t
      · have t4 : decide (32 * (p : Int) < (t : Int)) = true := decide_eq_true (by omega)
        have HK : Hid (k0 + 1 = kOf k0 t) := Lib.hid (by unfold kOf; rw [if_neg (by rw [← HP.out]; omega), if_pos ⟨by omega, by rw [← HP.out]; omega⟩])
        go_enter Try.func52, Try.ntmps52
        go_wp2_with fail
        go_region
        all_goals
          go_wp2_with fail
          go_region
          all_goals
            go_wp2_with fail
            go_region
            all_goals
              go_wp2_with fail
              go_end0
              refine ⟨k0 + 1, t, rfl, HT, HK, ?_, ?_⟩
              · have e : ((k0 + 1 : Nat) : Int) = (k0 : Int) + 1 := (by omega); rw [e]
                repeat' (first | (with_reducible assumption) | (with_reducible exact Below.refl _ _) | (with_reducible refine Blk.drewN ?_ _) | (with_reducible refine RowIn.drewN ?_ _) | (with_reducible refine below_drewN ?_ _) | (with_reducible refine Blk.drew ?_) | (with_reducible refine RowIn.drew ?_) | (with_reducible refine Below.drew ?_) | (with_reducible refine Blk.new' ?_ ?_ <;> first | (with_reducible rfl) | (simp; done)) | (with_reducible refine Blk.alloc ?_ _) | (with_reducible refine RowIn.alloc ?_ _) | (with_reducible refine Below.alloc ?_ ?_ _) | (with_reducible apply Blk.set') | (with_reducible apply Blk.far') | (with_reducible refine RowIn.far' ?_ ?_ _) | (with_reducible refine Below.far' ?_ ?_ _) | rfl | omega | go_size)
              · repeat' (first | (with_reducible exact Frm.refl _ _) | (with_reducible refine Frm.drew ?_) | (with_reducible refine Frm.gset ?_ _))
      · have t4 : decide (32 * (p : Int) < (t : Int)) = false := decide_eq_false (by omega)
        have HK : Hid (k0 = kOf k0 t) := Lib.hid (by unfold kOf; rw [if_neg (by rw [← HP.out]; omega), if_neg (by rw [← HP.out]; omega)])
        go_enter Try.func52, Try.ntmps52
        go_wp2_with fail
        go_region
        all_goals
          go_wp2_with fail
          go_region
          all_goals
            go_wp2_with fail
            go_region
            all_goals
              go_wp2_with fail
              go_end0
              refine ⟨k0, t, rfl, HT, HK, ?_, ?_⟩
              · skip
                repeat' (first | (with_reducible assumption) | (with_reducible exact Below.refl _ _) | (with_reducible refine Blk.drewN ?_ _) | (with_reducible refine RowIn.drewN ?_ _) | (with_reducible refine below_drewN ?_ _) | (with_reducible refine Blk.drew ?_) | (with_reducible refine RowIn.drew ?_) | (with_reducible refine Below.drew ?_) | (with_reducible refine Blk.new' ?_ ?_ <;> first | (with_reducible rfl) | (simp; done)) | (with_reducible refine Blk.alloc ?_ _) | (with_reducible refine RowIn.alloc ?_ _) | (with_reducible refine Below.alloc ?_ ?_ _) | (with_reducible apply Blk.set') | (with_reducible apply Blk.far') | (with_reducible refine RowIn.far' ?_ ?_ _) | (with_reducible refine Below.far' ?_ ?_ _) | rfl | omega | go_size)
              · repeat' (first | (with_reducible exact Frm.refl _ _) | (with_reducible refine Frm.drew ?_) | (with_reducible refine Frm.gset ?_ _))
    · have t3 : decide ((k0 : Int) < 24) = false := decide_eq_false (by omega)
      have HK : Hid (k0 = kOf k0 t) := Lib.hid (by unfold kOf; rw [if_neg (by rw [← HP.out]; omega), if_neg (by rw [← HP.out]; omega)])
      go_enter Try.func52, Try.ntmps52
      go_wp2_with fail
      go_region
      all_goals
        go_wp2_with fail
        go_region
        all_goals
          go_wp2_with fail
          go_region
          all_goals
            go_wp2_with fail
            go_end0
            refine ⟨k0, t, rfl, HT, HK, ?_, ?_⟩
            · skip
              repeat' (first | (with_reducible assumption) | (with_reducible exact Below.refl _ _) | (with_reducible refine Blk.drewN ?_ _) | (with_reducible refine RowIn.drewN ?_ _) | (with_reducible refine below_drewN ?_ _) | (with_reducible refine Blk.drew ?_) | (with_reducible refine RowIn.drew ?_) | (with_reducible refine Below.drew ?_) | (with_reducible refine Blk.new' ?_ ?_ <;> first | (with_reducible rfl) | (simp; done)) | (with_reducible refine Blk.alloc ?_ _) | (with_reducible refine RowIn.alloc ?_ _) | (with_reducible refine Below.alloc ?_ ?_ _) | (with_reducible apply Blk.set') | (with_reducible apply Blk.far') | (with_reducible refine RowIn.far' ?_ ?_ _) | (with_reducible refine Below.far' ?_ ?_ _) | rfl | omega | go_size)
            · repeat' (first | (with_reducible exact Frm.refl _ _) | (with_reducible refine Frm.drew ?_) | (with_reducible refine Frm.gset ?_ _))


set_option maxRecDepth 100000 in
set_option maxHeartbeats 400000 in
theorem dpair1 (g k0 k1 s0 s1 n : Nat) (w : World) (hk : k1 ≤ 24) (hs : s1 ≤ 68719476735) (hn : n < 4294967296) (hb : Blk w g 46 [.int .i64 (k0 : Int), .int .i64 (k1 : Int), .int .u64 (s0 : Int), .int .u64 (s1 : Int)]) :
    Calls Try.prog 52 #[.pointer (some ⟨g, 1, none⟩), .pointer (some ⟨g, 3, none⟩), .int .u32 (n : Int)] w fun e w' => ∃ k' s' : Nat, e = .returned (.tuple #[]) ∧ Hid (s' = sumOf s1 n) ∧ Hid (k' = kOf k1 s') ∧ Blk w' g 46 [.int .i64 (k0 : Int), .int .i64 (k' : Int), .int .u64 (s0 : Int), .int .u64 (s' : Int)] ∧ Frm (fun k => k = g) w w' := by
  have kc := hb.cell; have kf := hb.frozen; have kl := hb.lt
  obtain ⟨d, hd⟩ : ∃ d, d = s1 / 16 := ⟨_, rfl⟩
  have hdi : (s1 : Int) / 16 = (d : Int) := by omega
  obtain ⟨t, ht⟩ : ∃ t, t = sumOf s1 n := ⟨_, rfl⟩
  have hw := sum_wrap hs hn hd
  rw [← ht] at hw
  have ht2 : t ≤ 73014444031 := by rw [ht]; unfold sumOf; omega
  have HT := Lib.hid ht
  obtain ⟨p, hp⟩ : ∃ p, p = 2 ^ k1 := ⟨_, rfl⟩
  have hp2 : p ≤ 16777216 := by rw [hp]; exact Nat.le_trans (Nat.pow_le_pow_right (by omega) hk) (by decide)
  have hpi : (2 : Int) ^ k1 = (p : Int) := by rw [hp, pow_cast]
  have HP := Lib.hid hp
  clear hd ht hp
  by_cases hk0 : 0 < k1
  · have t1 : decide (0 < (k1 : Int)) = true := decide_eq_true (by omega)
    by_cases h16 : t < 16 * p
    · have t2 : decide ((t : Int) < 16 * (p : Int)) = true := decide_eq_true (by omega)
      have HK : Hid (k1 - 1 = kOf k1 t) := Lib.hid (by unfold kOf; rw [if_pos ⟨by omega, by rw [← HP.out]; omega⟩])
      go_enter Try.func52, Try.ntmps52
      go_wp2_with fail
      go_region
      all_goals
        go_wp2_with fail
        go_region
        all_goals
          go_wp2_with fail
          go_end0
          refine ⟨k1 - 1, t, rfl, HT, HK, ?_, ?_⟩
          · have e : ((k1 - 1 : Nat) : Int) = (k1 : Int) - 1 := (by omega); rw [e]
            repeat' (first | (with_reducible assumption) | (with_reducible exact Below.refl _ _) | (with_reducible refine Blk.drewN ?_ _) | (with_reducible refine RowIn.drewN ?_ _) | (with_reducible refine below_drewN ?_ _) | (with_reducible refine Blk.drew ?_) | (with_reducible refine RowIn.drew ?_) | (with_reducible refine Below.drew ?_) | (with_reducible refine Blk.new' ?_ ?_ <;> first | (with_reducible rfl) | (simp; done)) | (with_reducible refine Blk.alloc ?_ _) | (with_reducible refine RowIn.alloc ?_ _) | (with_reducible refine Below.alloc ?_ ?_ _) | (with_reducible apply Blk.set') | (with_reducible apply Blk.far') | (with_reducible refine RowIn.far' ?_ ?_ _) | (with_reducible refine Below.far' ?_ ?_ _) | rfl | omega | go_size)
          · repeat' (first | (with_reducible exact Frm.refl _ _) | (with_reducible refine Frm.drew ?_) | (with_reducible refine Frm.gset ?_ _))
    · have t2 : decide ((t : Int) < 16 * (p : Int)) = false := decide_eq_false (by omega)
      by_cases h24 : k1 < 24
      · have t3 : decide ((k1 : Int) < 24) = true := decide_eq_true (by omega)
        by_cases h32 : 32 * p < t
        · have t4 : decide (32 * (p : Int) < (t : Int)) = true := decide_eq_true (by omega)
          have HK : Hid (k1 + 1 = kOf k1 t) := Lib.hid (by unfold kOf; rw [if_neg (by rw [← HP.out]; omega), if_pos ⟨by omega, by rw [← HP.out]; omega⟩])
          go_enter Try.func52, Try.ntmps52
          go_wp2_with fail
          go_region
          all_goals
            go_wp2_with fail
            go_region
            all_goals
              go_wp2_with fail
              go_region
              all_goals
                go_wp2_with fail
                go_end0
                refine ⟨k1 + 1, t, rfl, HT, HK, ?_, ?_⟩
                · have e : ((k1 + 1 : Nat) : Int) = (k1 : Int) + 1 := (by omega); rw [e]
                  repeat' (first | (with_reducible assumption) | (with_reducible exact Below.refl _ _) | (with_reducible refine Blk.drewN ?_ _) | (with_reducible refine RowIn.drewN ?_ _) | (with_reducible refine below_drewN ?_ _) | (with_reducible refine Blk.drew ?_) | (with_reducible refine RowIn.drew ?_) | (with_reducible refine Below.drew ?_) | (with_reducible refine Blk.new' ?_ ?_ <;> first | (with_reducible rfl) | (simp; done)) | (with_reducible refine Blk.alloc ?_ _) | (with_reducible refine RowIn.alloc ?_ _) | (with_reducible refine Below.alloc ?_ ?_ _) | (with_reducible apply Blk.set') | (with_reducible apply Blk.far') | (with_reducible refine RowIn.far' ?_ ?_ _) | (with_reducible refine Below.far' ?_ ?_ _) | rfl | omega | go_size)
                · repeat' (first | (with_reducible exact Frm.refl _ _) | (with_reducible refine Frm.drew ?_) | (with_reducible refine Frm.gset ?_ _))
        · have t4 : decide (32 * (p : Int) < (t : Int)) = false := decide_eq_false (by omega)
          have HK : Hid (k1 = kOf k1 t) := Lib.hid (by unfold kOf; rw [if_neg (by rw [← HP.out]; omega), if_neg (by rw [← HP.out]; omega)])
          go_enter Try.func52, Try.ntmps52
          go_wp2_with fail
          go_region
          all_goals
            go_wp2_with fail
            go_region
            all_goals
              go_wp2_with fail
              go_region
              all_goals
                go_wp2_with fail
                go_end0
                refine ⟨k1, t, rfl, HT, HK, ?_, ?_⟩
                · skip
                  repeat' (first | (with_reducible assumption) | (with_reducible exact Below.refl _ _) | (with_reducible refine Blk.drewN ?_ _) | (with_reducible refine RowIn.drewN ?_ _) | (with_reducible refine below_drewN ?_ _) | (with_reducible refine Blk.drew ?_) | (with_reducible refine RowIn.drew ?_) | (with_reducible refine Below.drew ?_) | (with_reducible refine Blk.new' ?_ ?_ <;> first | (with_reducible rfl) | (simp; done)) | (with_reducible refine Blk.alloc ?_ _) | (with_reducible refine RowIn.alloc ?_ _) | (with_reducible refine Below.alloc ?_ ?_ _) | (with_reducible apply Blk.set') | (with_reducible apply Blk.far') | (with_reducible refine RowIn.far' ?_ ?_ _) | (with_reducible refine Below.far' ?_ ?_ _) | rfl | omega | go_size)
                · repeat' (first | (with_reducible exact Frm.refl _ _) | (with_reducible refine Frm.drew ?_) | (with_reducible refine Frm.gset ?_ _))
      · have t3 : decide ((k1 : Int) < 24) = false := decide_eq_false (by omega)
        have HK : Hid (k1 = kOf k1 t) := Lib.hid (by unfold kOf; rw [if_neg (by rw [← HP.out]; omega), if_neg (by rw [← HP.out]; omega)])
        go_enter Try.func52, Try.ntmps52
        go_wp2_with fail
        go_region
        all_goals
          go_wp2_with fail
          go_region
          all_goals
            go_wp2_with fail
            go_region
            all_goals
              go_wp2_with fail
              go_end0
              refine ⟨k1, t, rfl, HT, HK, ?_, ?_⟩
              · skip
                repeat' (first | (with_reducible assumption) | (with_reducible exact Below.refl _ _) | (with_reducible refine Blk.drewN ?_ _) | (with_reducible refine RowIn.drewN ?_ _) | (with_reducible refine below_drewN ?_ _) | (with_reducible refine Blk.drew ?_) | (with_reducible refine RowIn.drew ?_) | (with_reducible refine Below.drew ?_) | (with_reducible refine Blk.new' ?_ ?_ <;> first | (with_reducible rfl) | (simp; done)) | (with_reducible refine Blk.alloc ?_ _) | (with_reducible refine RowIn.alloc ?_ _) | (with_reducible refine Below.alloc ?_ ?_ _) | (with_reducible apply Blk.set') | (with_reducible apply Blk.far') | (with_reducible refine RowIn.far' ?_ ?_ _) | (with_reducible refine Below.far' ?_ ?_ _) | rfl | omega | go_size)
              · repeat' (first | (with_reducible exact Frm.refl _ _) | (with_reducible refine Frm.drew ?_) | (with_reducible refine Frm.gset ?_ _))
  · have t1 : decide (0 < (k1 : Int)) = false := decide_eq_false (by omega)
    by_cases h24 : k1 < 24
    · have t3 : decide ((k1 : Int) < 24) = true := decide_eq_true (by omega)
      by_cases h32 : 32 * p < t
      · have t4 : decide (32 * (p : Int) < (t : Int)) = true := decide_eq_true (by omega)
        have HK : Hid (k1 + 1 = kOf k1 t) := Lib.hid (by unfold kOf; rw [if_neg (by rw [← HP.out]; omega), if_pos ⟨by omega, by rw [← HP.out]; omega⟩])
        go_enter Try.func52, Try.ntmps52
        go_wp2_with fail
        go_region
        all_goals
          go_wp2_with fail
          go_region
          all_goals
            go_wp2_with fail
            go_region
            all_goals
              go_wp2_with fail
              go_end0
              refine ⟨k1 + 1, t, rfl, HT, HK, ?_, ?_⟩
              · have e : ((k1 + 1 : Nat) : Int) = (k1 : Int) + 1 := (by omega); rw [e]
                repeat' (first | (with_reducible assumption) | (with_reducible exact Below.refl _ _) | (with_reducible refine Blk.drewN ?_ _) | (with_reducible refine RowIn.drewN ?_ _) | (with_reducible refine below_drewN ?_ _) | (with_reducible refine Blk.drew ?_) | (with_reducible refine RowIn.drew ?_) | (with_reducible refine Below.drew ?_) | (with_reducible refine Blk.new' ?_ ?_ <;> first | (with_reducible rfl) | (simp; done)) | (with_reducible refine Blk.alloc ?_ _) | (with_reducible refine RowIn.alloc ?_ _) | (with_reducible refine Below.alloc ?_ ?_ _) | (with_reducible apply Blk.set') | (with_reducible apply Blk.far') | (with_reducible refine RowIn.far' ?_ ?_ _) | (with_reducible refine Below.far' ?_ ?_ _) | rfl | omega | go_size)
              · repeat' (first | (with_reducible exact Frm.refl _ _) | (with_reducible refine Frm.drew ?_) | (with_reducible refine Frm.gset ?_ _))
      · have t4 : decide (32 * (p : Int) < (t : Int)) = false := decide_eq_false (by omega)
        have HK : Hid (k1 = kOf k1 t) := Lib.hid (by unfold kOf; rw [if_neg (by rw [← HP.out]; omega), if_neg (by rw [← HP.out]; omega)])
        go_enter Try.func52, Try.ntmps52
        go_wp2_with fail
        go_region
        all_goals
          go_wp2_with fail
          go_region
          all_goals
            go_wp2_with fail
            go_region
            all_goals
              go_wp2_with fail
              go_end0
              refine ⟨k1, t, rfl, HT, HK, ?_, ?_⟩
              · skip
                repeat' (first | (with_reducible assumption) | (with_reducible exact Below.refl _ _) | (with_reducible refine Blk.drewN ?_ _) | (with_reducible refine RowIn.drewN ?_ _) | (with_reducible refine below_drewN ?_ _) | (with_reducible refine Blk.drew ?_) | (with_reducible refine RowIn.drew ?_) | (with_reducible refine Below.drew ?_) | (with_reducible refine Blk.new' ?_ ?_ <;> first | (with_reducible rfl) | (simp; done)) | (with_reducible refine Blk.alloc ?_ _) | (with_reducible refine RowIn.alloc ?_ _) | (with_reducible refine Below.alloc ?_ ?_ _) | (with_reducible apply Blk.set') | (with_reducible apply Blk.far') | (with_reducible refine RowIn.far' ?_ ?_ _) | (with_reducible refine Below.far' ?_ ?_ _) | rfl | omega | go_size)
              · repeat' (first | (with_reducible exact Frm.refl _ _) | (with_reducible refine Frm.drew ?_) | (with_reducible refine Frm.gset ?_ _))
    · have t3 : decide ((k1 : Int) < 24) = false := decide_eq_false (by omega)
      have HK : Hid (k1 = kOf k1 t) := Lib.hid (by unfold kOf; rw [if_neg (by rw [← HP.out]; omega), if_neg (by rw [← HP.out]; omega)])
      go_enter Try.func52, Try.ntmps52
      go_wp2_with fail
      go_region
      all_goals
        go_wp2_with fail
        go_region
        all_goals
          go_wp2_with fail
          go_region
          all_goals
            go_wp2_with fail
            go_end0
            refine ⟨k1, t, rfl, HT, HK, ?_, ?_⟩
            · skip
              repeat' (first | (with_reducible assumption) | (with_reducible exact Below.refl _ _) | (with_reducible refine Blk.drewN ?_ _) | (with_reducible refine RowIn.drewN ?_ _) | (with_reducible refine below_drewN ?_ _) | (with_reducible refine Blk.drew ?_) | (with_reducible refine RowIn.drew ?_) | (with_reducible refine Below.drew ?_) | (with_reducible refine Blk.new' ?_ ?_ <;> first | (with_reducible rfl) | (simp; done)) | (with_reducible refine Blk.alloc ?_ _) | (with_reducible refine RowIn.alloc ?_ _) | (with_reducible refine Below.alloc ?_ ?_ _) | (with_reducible apply Blk.set') | (with_reducible apply Blk.far') | (with_reducible refine RowIn.far' ?_ ?_ _) | (with_reducible refine Below.far' ?_ ?_ _) | rfl | omega | go_size)
            · repeat' (first | (with_reducible exact Frm.refl _ _) | (with_reducible refine Frm.drew ?_) | (with_reducible refine Frm.gset ?_ _))


set_option maxRecDepth 100000 in
set_option maxHeartbeats 400000 in
theorem dlearn_any (g k0 k1 s0 s1 v : Nat) (w : World) (hd : Dual.Ok ⟨k0, k1, s0, s1⟩) (hv : v < 4294967296) (hb : Blk w g 46 [.int .i64 (k0 : Int), .int .i64 (k1 : Int), .int .u64 (s0 : Int), .int .u64 (s1 : Int)]) :
    Calls Try.prog 42 #[.pointer (some ⟨g, 0, none⟩), .int .u32 (v : Int)] w fun e w' => ∃ a0 a1 b0 b1 : Nat, e = .returned (.tuple #[]) ∧ Hid ((⟨a0, a1, b0, b1⟩ : Dual) = learn ⟨k0, k1, s0, s1⟩ v) ∧ Blk w' g 46 [.int .i64 (a0 : Int), .int .i64 (a1 : Int), .int .u64 (b0 : Int), .int .u64 (b1 : Int)] ∧ Frm (fun k => k = g) w w' := by
  obtain ⟨h0, h1, h2, h3⟩ := hd
  dsimp only at h0 h1 h2 h3
  have hmf : ∀ (fn : Fn) (first cap : Array Value) (w : World), (Instr.makeFunc fn first cap).run Try.prog w = .ok (.func fn first cap) w := fun _ _ _ _ => rfl
  have kc := hb.cell; have kf := hb.frozen; have kl := hb.lt

  by_cases h : v < 2 ^ k0
  · have HL : Hid (learn ⟨k0, k1, s0, s1⟩ v = ⟨kOf k0 (sumOf s0 v), k1, sumOf s0 v, s1⟩) := Lib.hid (by unfold learn; rw [if_pos h])
    go_enter Try.func42, Try.ntmps42
    go_wp2_with fail
    refine (dlevel_low k0 k1 s0 s1 v w h0 hv h).mono ?_
    rintro e w1 ⟨rfl, b1⟩
    have hb1 := hb.after b1
    have c1 := hb1.cell; have f1 := hb1.frozen; have l1 := hb1.lt
    go_wp2_with fail
    go_region_law (go_simp; go_at_call 52; refine (dpair0 g k0 k1 s0 s1 v _ h0 h2 hv hb1.drew).mono ?_
                   rintro e w2 ⟨k', s', rfl, HS, HK, hb2, fr2⟩)
    all_goals
      go_wp2
      go_end0
      refine ⟨k', k1, s', s1, rfl, ?_, hb2, (Frm.of_below b1 _).drew.trans fr2 (fun _ _ h => h)⟩
      rw [HL.out, ← HS.out, ← HK.out]; exact Lib.hid rfl
  · have HL : Hid (learn ⟨k0, k1, s0, s1⟩ v = ⟨kOf k0 (sumOf s0 v), kOf k1 (sumOf s1 (v - 2 ^ k0)), sumOf s0 v, sumOf s1 (v - 2 ^ k0)⟩) := Lib.hid (by unfold learn; rw [if_neg h])
    go_enter Try.func42, Try.ntmps42
    go_wp2_with fail
    refine (dlevel_high k0 k1 s0 s1 v w h0 hv h).mono ?_
    rintro e w1 ⟨y, rfl, HY, b1⟩
    have hy : y < 4294967296 := by rw [HY.out]; exact Nat.lt_of_le_of_lt (Nat.sub_le _ _) hv
    have hb1 := hb.after b1
    have c1 := hb1.cell; have f1 := hb1.frozen; have l1 := hb1.lt
    go_wp2_with fail
    go_region_law (go_simp; go_at_call 52; refine (dpair1 g k0 k1 s0 s1 y _ h1 h3 hy hb1.drew).mono ?_
                   rintro e w2 ⟨k', s', rfl, HS, HK, hb2, fr2⟩)
    all_goals
      have c2 := hb2.cell; have f2 := hb2.frozen; have l2 := hb2.lt
      go_wp2_with fail
      go_region_law (go_simp; go_at_call 52; refine (dpair0 g k0 k' s0 s' v _ h0 h2 hv hb2.drew).mono ?_
                     rintro e w3 ⟨k3, s3, rfl, HS3, HK3, hb3, fr3⟩)
      all_goals
        go_wp2
        go_end0
        refine ⟨k3, k', s3, s', rfl, ?_, hb3, ((Frm.of_below b1 _).drew.trans fr2 (fun _ _ h => h)).drew.trans fr3 (fun _ _ h => h)⟩
        rw [HL.out, ← HY.out, ← HS.out, ← HK.out, ← HS3.out, ← HK3.out]; exact Lib.hid rfl

theorem dcheck_ok (k0 k1 s0 s1 : Nat) (w : World) (hd : Dual.Ok ⟨k0, k1, s0, s1⟩) :
    Calls Try.prog 39 #[.agg #[.int .i64 (k0 : Int), .int .i64 (k1 : Int), .int .u64 (s0 : Int), .int .u64 (s1 : Int)]] w fun e w' => e = .returned (.int .i64 0) ∧ Below w.heap.size w w' :=
  (dcheck_any k0 k1 s0 s1 w (by omega) (by omega)).mono fun e w' h => ⟨by rw [h.1, if_pos (by obtain ⟨h0, h1, h2, h3⟩ := hd; dsimp only at h0 h1 h2 h3; unfold DOk; omega)], h.2⟩
theorem dcheck_bad (k0 k1 s0 s1 : Int) (w : World) (h2 : 0 ≤ s0) (h3 : 0 ≤ s1) (hd : ¬ DOk k0 k1 s0 s1) :
    Calls Try.prog 39 #[.agg #[.int .i64 (k0), .int .i64 (k1), .int .u64 (s0), .int .u64 (s1)]] w fun e w' => e = .returned (.int .i64 8) ∧ Below w.heap.size w w' :=
  (dcheck_any k0 k1 s0 s1 w h2 h3).mono fun e w' h => ⟨by rw [h.1, if_neg hd], h.2⟩
/-- Numbers that are a state are one. -/
theorem dok_dual {k0 k1 s0 s1 : Int} (h2 : 0 ≤ s0) (h3 : 0 ≤ s1) (hd : DOk k0 k1 s0 s1) : ∃ a b c d : Nat, k0 = a ∧ k1 = b ∧ s0 = c ∧ s1 = d ∧ Dual.Ok ⟨a, b, c, d⟩ := by
  obtain ⟨a1, a2, a3, a4⟩ := hd
  exact ⟨k0.toNat, k1.toNat, s0.toNat, s1.toNat, by omega, by omega, by omega, by omega, by show k0.toNat ≤ 24; omega, by show k1.toNat ≤ 24; omega, by show s0.toNat ≤ 68719476735; omega, by show s1.toNat ≤ 68719476735; omega⟩

set_option maxHeartbeats 400000 in
theorem dLearn_ok (p0 p1 q0 q1 v : Nat) (w : World) (hd : Dual.Ok ⟨p0, p1, q0, q1⟩) (hv : v < 4294967296) :
    Calls Try.prog 26 #[.agg #[.int .i64 (p0 : Int), .int .i64 (p1 : Int), .int .u64 (q0 : Int), .int .u64 (q1 : Int)], .int .u32 (v : Int)] w fun e w' => ∃ u0 u1 v0 v1 : Nat, e = .returned (.tuple #[.agg #[.int .i64 (u0 : Int), .int .i64 (u1 : Int), .int .u64 (v0 : Int), .int .u64 (v1 : Int)], .int .i64 0]) ∧ Hid ((⟨u0, u1, v0, v1⟩ : Dual) = learn ⟨p0, p1, q0, q1⟩ v) ∧ Below w.heap.size w w' := by

  go_enter Try.func26, Try.ntmps26
  go_wp2_with fail
  obtain ⟨hd0, hd1, hd2, hd3⟩ : p0 ≤ 24 ∧ p1 ≤ 24 ∧ q0 ≤ 68719476735 ∧ q1 ≤ 68719476735 := id hd
  refine (dcheck_ok p0 p1 q0 q1 _ hd).mono ?_
  rintro e w1 ⟨rfl, b1⟩
  have s1 := b1.size
  try simp only [World.size_alloc, World.size_setCell, World.size_drew, size_drewN] at s1
  obtain ⟨zd_1, zr_1, bb_1⟩ : Blk w1 (w.heap.size) 46 [.int .i64 (p0 : Int), .int .i64 (p1 : Int), .int .u64 (q0 : Int), .int .u64 (q1 : Int)] ∧ Blk w1 (w.heap.size + 1) 46 [.int .i64 0, .int .i64 0, .int .u64 0, .int .u64 0] ∧ Below w.heap.size w w1 := by
    refine ⟨?_, ?_, ?_⟩
    all_goals repeat' (first | (with_reducible assumption) | (with_reducible exact Below.refl _ _) | (with_reducible refine Blk.after ?_ b1) | (with_reducible refine RowIn.belowS ?_ b1) | (with_reducible refine Below.after ?_ b1 ?_) | (with_reducible refine Blk.drewN ?_ _) | (with_reducible refine RowIn.drewN ?_ _) | (with_reducible refine below_drewN ?_ _) | (with_reducible refine Blk.drew ?_) | (with_reducible refine RowIn.drew ?_) | (with_reducible refine Below.drew ?_) | (with_reducible refine Blk.new' ?_ ?_ <;> first | (with_reducible rfl) | (simp; done)) | (with_reducible refine Blk.alloc ?_ _) | (with_reducible refine RowIn.alloc ?_ _) | (with_reducible refine Below.alloc ?_ ?_ _) | (with_reducible apply Blk.set') | (with_reducible apply Blk.far') | (with_reducible refine RowIn.far' ?_ ?_ _) | (with_reducible refine Below.far' ?_ ?_ _) | rfl | omega | go_size)
  clear b1
  have kd_1 := zd_1.cell; have fd_1 := zd_1.frozen; have ld_1 := zd_1.lt
  have kr_1 := zr_1.cell; have fr_1 := zr_1.frozen; have lr_1 := zr_1.lt
  go_wp2_with fail
  refine (dlearn_any w.heap.size p0 p1 q0 q1 v w1 hd hv zd_1).mono ?_
  rintro e w2 ⟨u0, u1, v0, v1, rfl, HA, zd2, fr2⟩
  have zr2 := zr_1.frm fr2 (by omega)
  have kd2 := zd2.cell; have fd2 := zd2.frozen; have ld2 := zd2.lt; have kr2 := zr2.cell; have frr2 := zr2.frozen; have lr2 := zr2.lt
  have bb2 : Below w.heap.size w w2 := bb_1.trans (fr2.below bb_1.size (fun k hk h => by omega))
  clear zd_1 zr_1 kd_1 fd_1 ld_1 kr_1 fr_1 lr_1 bb_1
  go_wp2
  refine bodyPost_ret (v := .tuple #[.agg #[.int .i64 (u0 : Int), .int .i64 (u1 : Int), .int .u64 (v0 : Int), .int .u64 (v1 : Int)], .int .i64 0]) (by simp [results, Try.results26, go_sem, kr2, lr2]) rfl ?_
  refine ⟨u0, u1, v0, v1, rfl, HA, ?_⟩
  repeat' (first | (with_reducible assumption) | (with_reducible exact Below.refl _ _) | (with_reducible refine Blk.drewN ?_ _) | (with_reducible refine RowIn.drewN ?_ _) | (with_reducible refine below_drewN ?_ _) | (with_reducible refine Blk.drew ?_) | (with_reducible refine RowIn.drew ?_) | (with_reducible refine Below.drew ?_) | (with_reducible refine Blk.new' ?_ ?_ <;> first | (with_reducible rfl) | (simp; done)) | (with_reducible refine Blk.alloc ?_ _) | (with_reducible refine RowIn.alloc ?_ _) | (with_reducible refine Below.alloc ?_ ?_ _) | (with_reducible apply Blk.set') | (with_reducible apply Blk.far') | (with_reducible refine RowIn.far' ?_ ?_ _) | (with_reducible refine Below.far' ?_ ?_ _) | rfl | omega | go_size)


set_option maxHeartbeats 400000 in
theorem dLearn_bad (p0 p1 q0 q1 : Int) (h2 : 0 ≤ q0) (h3 : 0 ≤ q1) (v : Int) (w : World) (hd : ¬ DOk p0 p1 q0 q1) :
    Calls Try.prog 26 #[.agg #[.int .i64 p0, .int .i64 p1, .int .u64 q0, .int .u64 q1], .int .u32 v] w fun e w' => e = .returned (.tuple #[.agg #[.int .i64 0, .int .i64 0, .int .u64 0, .int .u64 0], .int .i64 8]) ∧ Below w.heap.size w w' := by
  go_enter Try.func26, Try.ntmps26
  go_wp2_with fail
  refine (dcheck_bad p0 p1 q0 q1 _ h2 h3 hd).mono ?_
  rintro e w1 ⟨rfl, b1⟩
  have s1 := b1.size
  try simp only [World.size_alloc, World.size_setCell, World.size_drew, size_drewN] at s1
  obtain ⟨zd_1, zr_1, bb_1⟩ : Blk w1 (w.heap.size) 46 [.int .i64 p0, .int .i64 p1, .int .u64 q0, .int .u64 q1] ∧ Blk w1 (w.heap.size + 1) 46 [.int .i64 0, .int .i64 0, .int .u64 0, .int .u64 0] ∧ Below w.heap.size w w1 := by
    refine ⟨?_, ?_, ?_⟩
    all_goals repeat' (first | (with_reducible assumption) | (with_reducible exact Below.refl _ _) | (with_reducible refine Blk.after ?_ b1) | (with_reducible refine RowIn.belowS ?_ b1) | (with_reducible refine Below.after ?_ b1 ?_) | (with_reducible refine Blk.drewN ?_ _) | (with_reducible refine RowIn.drewN ?_ _) | (with_reducible refine below_drewN ?_ _) | (with_reducible refine Blk.drew ?_) | (with_reducible refine RowIn.drew ?_) | (with_reducible refine Below.drew ?_) | (with_reducible refine Blk.new' ?_ ?_ <;> first | (with_reducible rfl) | (simp; done)) | (with_reducible refine Blk.alloc ?_ _) | (with_reducible refine RowIn.alloc ?_ _) | (with_reducible refine Below.alloc ?_ ?_ _) | (with_reducible apply Blk.set') | (with_reducible apply Blk.far') | (with_reducible refine RowIn.far' ?_ ?_ _) | (with_reducible refine Below.far' ?_ ?_ _) | rfl | omega | go_size)
  clear b1
  have kd_1 := zd_1.cell; have fd_1 := zd_1.frozen; have ld_1 := zd_1.lt
  have kr_1 := zr_1.cell; have fr_1 := zr_1.frozen; have lr_1 := zr_1.lt
  go_wp2
  refine bodyPost_ret (v := .tuple #[.agg #[.int .i64 0, .int .i64 0, .int .u64 0, .int .u64 0], .int .i64 8]) (by simp [results, Try.results26, go_sem, kr_1, lr_1]) rfl ?_
  refine ⟨rfl, ?_⟩
  repeat' (first | (with_reducible assumption) | (with_reducible exact Below.refl _ _) | (with_reducible refine Blk.drewN ?_ _) | (with_reducible refine RowIn.drewN ?_ _) | (with_reducible refine below_drewN ?_ _) | (with_reducible refine Blk.drew ?_) | (with_reducible refine RowIn.drew ?_) | (with_reducible refine Below.drew ?_) | (with_reducible refine Blk.new' ?_ ?_ <;> first | (with_reducible rfl) | (simp; done)) | (with_reducible refine Blk.alloc ?_ _) | (with_reducible refine RowIn.alloc ?_ _) | (with_reducible refine Below.alloc ?_ ?_ _) | (with_reducible apply Blk.set') | (with_reducible apply Blk.far') | (with_reducible refine RowIn.far' ?_ ?_ _) | (with_reducible refine Below.far' ?_ ?_ _) | rfl | omega | go_size)


set_option maxHeartbeats 400000 in
theorem dLength_bad (p0 p1 q0 q1 : Int) (h2 : 0 ≤ q0) (h3 : 0 ≤ q1) (v : Int) (w : World) (hd : ¬ DOk p0 p1 q0 q1) :
    Calls Try.prog 25 #[.agg #[.int .i64 p0, .int .i64 p1, .int .u64 q0, .int .u64 q1], .int .u32 v] w fun e w' => e = .returned (.tuple #[.int .i64 0, .int .i64 8]) ∧ Below w.heap.size w w' := by
  go_enter Try.func25, Try.ntmps25
  go_wp2_with fail
  refine (dcheck_bad p0 p1 q0 q1 _ h2 h3 hd).mono ?_
  rintro e w1 ⟨rfl, b1⟩
  have s1 := b1.size
  try simp only [World.size_alloc, World.size_setCell, World.size_drew, size_drewN] at s1
  obtain ⟨zd_1, bb_1⟩ : Blk w1 (w.heap.size) 46 [.int .i64 p0, .int .i64 p1, .int .u64 q0, .int .u64 q1] ∧ Below w.heap.size w w1 := by
    refine ⟨?_, ?_⟩
    all_goals repeat' (first | (with_reducible assumption) | (with_reducible exact Below.refl _ _) | (with_reducible refine Blk.after ?_ b1) | (with_reducible refine RowIn.belowS ?_ b1) | (with_reducible refine Below.after ?_ b1 ?_) | (with_reducible refine Blk.drewN ?_ _) | (with_reducible refine RowIn.drewN ?_ _) | (with_reducible refine below_drewN ?_ _) | (with_reducible refine Blk.drew ?_) | (with_reducible refine RowIn.drew ?_) | (with_reducible refine Below.drew ?_) | (with_reducible refine Blk.new' ?_ ?_ <;> first | (with_reducible rfl) | (simp; done)) | (with_reducible refine Blk.alloc ?_ _) | (with_reducible refine RowIn.alloc ?_ _) | (with_reducible refine Below.alloc ?_ ?_ _) | (with_reducible apply Blk.set') | (with_reducible apply Blk.far') | (with_reducible refine RowIn.far' ?_ ?_ _) | (with_reducible refine Below.far' ?_ ?_ _) | rfl | omega | go_size)
  clear b1
  have kd_1 := zd_1.cell; have fd_1 := zd_1.frozen; have ld_1 := zd_1.lt
  go_wp2
  go_ret2
  refine ⟨rfl, ?_⟩
  repeat' (first | (with_reducible assumption) | (with_reducible exact Below.refl _ _) | (with_reducible refine Blk.drewN ?_ _) | (with_reducible refine RowIn.drewN ?_ _) | (with_reducible refine below_drewN ?_ _) | (with_reducible refine Blk.drew ?_) | (with_reducible refine RowIn.drew ?_) | (with_reducible refine Below.drew ?_) | (with_reducible refine Blk.new' ?_ ?_ <;> first | (with_reducible rfl) | (simp; done)) | (with_reducible refine Blk.alloc ?_ _) | (with_reducible refine RowIn.alloc ?_ _) | (with_reducible refine Below.alloc ?_ ?_ _) | (with_reducible apply Blk.set') | (with_reducible apply Blk.far') | (with_reducible refine RowIn.far' ?_ ?_ _) | (with_reducible refine Below.far' ?_ ?_ _) | rfl | omega | go_size)


set_option maxRecDepth 100000 in
set_option maxHeartbeats 400000 in
theorem dLength_ok (p0 p1 q0 q1 v : Nat) (w : World) (hd : Dual.Ok ⟨p0, p1, q0, q1⟩) (hv : v < 4294967296) :
    Calls Try.prog 25 #[.agg #[.int .i64 (p0 : Int), .int .i64 (p1 : Int), .int .u64 (q0 : Int), .int .u64 (q1 : Int)], .int .u32 (v : Int)] w fun e w' => ∃ y : Nat, e = .returned (.tuple #[.int .i64 (y : Int), .int .i64 0]) ∧ Hid (y = lenD ⟨p0, p1, q0, q1⟩ v) ∧ Below w.heap.size w w' := by
  obtain ⟨hd0, hd1, hd2, hd3⟩ : p0 ≤ 24 ∧ p1 ≤ 24 ∧ q0 ≤ 68719476735 ∧ q1 ≤ 68719476735 := id hd
  by_cases h : v < 2 ^ p0
  · have HL : Hid (1 + p0 = lenD ⟨p0, p1, q0, q1⟩ v) := Lib.hid (by unfold lenD; rw [if_pos h])
    go_enter Try.func25, Try.ntmps25
    go_wp2_with fail
    refine (dcheck_ok p0 p1 q0 q1 _ hd).mono ?_
    rintro e w1 ⟨rfl, b1⟩
    have s1 := b1.size
    try simp only [World.size_alloc, World.size_setCell, World.size_drew, size_drewN] at s1
    obtain ⟨zd_1, bb_1⟩ : Blk w1 (w.heap.size) 46 [.int .i64 (p0 : Int), .int .i64 (p1 : Int), .int .u64 (q0 : Int), .int .u64 (q1 : Int)] ∧ Below w.heap.size w w1 := by
      refine ⟨?_, ?_⟩
      all_goals repeat' (first | (with_reducible assumption) | (with_reducible exact Below.refl _ _) | (with_reducible refine Blk.after ?_ b1) | (with_reducible refine RowIn.belowS ?_ b1) | (with_reducible refine Below.after ?_ b1 ?_) | (with_reducible refine Blk.drewN ?_ _) | (with_reducible refine RowIn.drewN ?_ _) | (with_reducible refine below_drewN ?_ _) | (with_reducible refine Blk.drew ?_) | (with_reducible refine RowIn.drew ?_) | (with_reducible refine Below.drew ?_) | (with_reducible refine Blk.new' ?_ ?_ <;> first | (with_reducible rfl) | (simp; done)) | (with_reducible refine Blk.alloc ?_ _) | (with_reducible refine RowIn.alloc ?_ _) | (with_reducible refine Below.alloc ?_ ?_ _) | (with_reducible apply Blk.set') | (with_reducible apply Blk.far') | (with_reducible refine RowIn.far' ?_ ?_ _) | (with_reducible refine Below.far' ?_ ?_ _) | rfl | omega | go_size)
    clear b1
    have kd_1 := zd_1.cell; have fd_1 := zd_1.frozen; have ld_1 := zd_1.lt
    go_wp2_with fail
    refine (dlevel_low p0 p1 q0 q1 v _ hd0 hv h).mono ?_
    rintro e w2 ⟨rfl, b2⟩
    have s2 := b2.size
    try simp only [World.size_alloc, World.size_setCell, World.size_drew, size_drewN] at s2
    obtain ⟨zd_2, bb_2⟩ : Blk w2 (w.heap.size) 46 [.int .i64 (p0 : Int), .int .i64 (p1 : Int), .int .u64 (q0 : Int), .int .u64 (q1 : Int)] ∧ Below w.heap.size w w2 := by
      refine ⟨?_, ?_⟩
      all_goals repeat' (first | (with_reducible assumption) | (with_reducible exact Below.refl _ _) | (with_reducible refine Blk.after ?_ b2) | (with_reducible refine RowIn.belowS ?_ b2) | (with_reducible refine Below.after ?_ b2 ?_) | (with_reducible refine Blk.drewN ?_ _) | (with_reducible refine RowIn.drewN ?_ _) | (with_reducible refine below_drewN ?_ _) | (with_reducible refine Blk.drew ?_) | (with_reducible refine RowIn.drew ?_) | (with_reducible refine Below.drew ?_) | (with_reducible refine Blk.new' ?_ ?_ <;> first | (with_reducible rfl) | (simp; done)) | (with_reducible refine Blk.alloc ?_ _) | (with_reducible refine RowIn.alloc ?_ _) | (with_reducible refine Below.alloc ?_ ?_ _) | (with_reducible apply Blk.set') | (with_reducible apply Blk.far') | (with_reducible refine RowIn.far' ?_ ?_ _) | (with_reducible refine Below.far' ?_ ?_ _) | rfl | omega | go_size)
    clear zd_1 bb_1 kd_1 fd_1 ld_1 b2
    have kd_2 := zd_2.cell; have fd_2 := zd_2.frozen; have ld_2 := zd_2.lt
    go_wp2
    go_ret2
    refine ⟨1 + p0, by go_num, HL, ?_⟩
    repeat' (first | (with_reducible assumption) | (with_reducible exact Below.refl _ _) | (with_reducible refine Blk.drewN ?_ _) | (with_reducible refine RowIn.drewN ?_ _) | (with_reducible refine below_drewN ?_ _) | (with_reducible refine Blk.drew ?_) | (with_reducible refine RowIn.drew ?_) | (with_reducible refine Below.drew ?_) | (with_reducible refine Blk.new' ?_ ?_ <;> first | (with_reducible rfl) | (simp; done)) | (with_reducible refine Blk.alloc ?_ _) | (with_reducible refine RowIn.alloc ?_ _) | (with_reducible refine Below.alloc ?_ ?_ _) | (with_reducible apply Blk.set') | (with_reducible apply Blk.far') | (with_reducible refine RowIn.far' ?_ ?_ _) | (with_reducible refine Below.far' ?_ ?_ _) | rfl | omega | go_size)
  · have HL : Hid (lenD ⟨p0, p1, q0, q1⟩ v = 1 + riceLen (v - 2 ^ p0) p1) := Lib.hid (by unfold lenD; rw [if_neg h])
    go_enter Try.func25, Try.ntmps25
    go_wp2_with fail
    refine (dcheck_ok p0 p1 q0 q1 _ hd).mono ?_
    rintro e w1 ⟨rfl, b1⟩
    have s1 := b1.size
    try simp only [World.size_alloc, World.size_setCell, World.size_drew, size_drewN] at s1
    obtain ⟨zd_1, bb_1⟩ : Blk w1 (w.heap.size) 46 [.int .i64 (p0 : Int), .int .i64 (p1 : Int), .int .u64 (q0 : Int), .int .u64 (q1 : Int)] ∧ Below w.heap.size w w1 := by
      refine ⟨?_, ?_⟩
      all_goals repeat' (first | (with_reducible assumption) | (with_reducible exact Below.refl _ _) | (with_reducible refine Blk.after ?_ b1) | (with_reducible refine RowIn.belowS ?_ b1) | (with_reducible refine Below.after ?_ b1 ?_) | (with_reducible refine Blk.drewN ?_ _) | (with_reducible refine RowIn.drewN ?_ _) | (with_reducible refine below_drewN ?_ _) | (with_reducible refine Blk.drew ?_) | (with_reducible refine RowIn.drew ?_) | (with_reducible refine Below.drew ?_) | (with_reducible refine Blk.new' ?_ ?_ <;> first | (with_reducible rfl) | (simp; done)) | (with_reducible refine Blk.alloc ?_ _) | (with_reducible refine RowIn.alloc ?_ _) | (with_reducible refine Below.alloc ?_ ?_ _) | (with_reducible apply Blk.set') | (with_reducible apply Blk.far') | (with_reducible refine RowIn.far' ?_ ?_ _) | (with_reducible refine Below.far' ?_ ?_ _) | rfl | omega | go_size)
    clear b1
    have kd_1 := zd_1.cell; have fd_1 := zd_1.frozen; have ld_1 := zd_1.lt
    go_wp2_with fail
    refine (dlevel_high p0 p1 q0 q1 v _ hd0 hv h).mono ?_
    rintro e w2 ⟨y, rfl, HY, b2⟩
    have s2 := b2.size
    try simp only [World.size_alloc, World.size_setCell, World.size_drew, size_drewN] at s2
    obtain ⟨zd_2, bb_2⟩ : Blk w2 (w.heap.size) 46 [.int .i64 (p0 : Int), .int .i64 (p1 : Int), .int .u64 (q0 : Int), .int .u64 (q1 : Int)] ∧ Below w.heap.size w w2 := by
      refine ⟨?_, ?_⟩
      all_goals repeat' (first | (with_reducible assumption) | (with_reducible exact Below.refl _ _) | (with_reducible refine Blk.after ?_ b2) | (with_reducible refine RowIn.belowS ?_ b2) | (with_reducible refine Below.after ?_ b2 ?_) | (with_reducible refine Blk.drewN ?_ _) | (with_reducible refine RowIn.drewN ?_ _) | (with_reducible refine below_drewN ?_ _) | (with_reducible refine Blk.drew ?_) | (with_reducible refine RowIn.drew ?_) | (with_reducible refine Below.drew ?_) | (with_reducible refine Blk.new' ?_ ?_ <;> first | (with_reducible rfl) | (simp; done)) | (with_reducible refine Blk.alloc ?_ _) | (with_reducible refine RowIn.alloc ?_ _) | (with_reducible refine Below.alloc ?_ ?_ _) | (with_reducible apply Blk.set') | (with_reducible apply Blk.far') | (with_reducible refine RowIn.far' ?_ ?_ _) | (with_reducible refine Below.far' ?_ ?_ _) | rfl | omega | go_size)
    clear zd_1 bb_1 kd_1 fd_1 ld_1 b2
    have kd_2 := zd_2.cell; have fd_2 := zd_2.frozen; have ld_2 := zd_2.lt
    have hy : y < 4294967296 := by rw [HY.out]; exact Nat.lt_of_le_of_lt (Nat.sub_le _ _) hv
    go_wp2_with fail
    refine (rlen_ok y p1 _ hd1 hy).mono ?_
    rintro e _ ⟨z, rfl, HZ, rfl⟩
    have hz : z ≤ 80 := by rw [HZ.out]; exact (rice_len_le _ _ hd1).2
    go_wp2_with fail
    try go_region
    all_goals
      go_wp2
      go_ret2
      refine ⟨1 + z, by go_num, ?_, ?_⟩
      · rw [HL.out, ← HY.out, ← HZ.out]; exact Lib.hid rfl
      · repeat' (first | (with_reducible assumption) | (with_reducible exact Below.refl _ _) | (with_reducible refine Blk.drewN ?_ _) | (with_reducible refine RowIn.drewN ?_ _) | (with_reducible refine below_drewN ?_ _) | (with_reducible refine Blk.drew ?_) | (with_reducible refine RowIn.drew ?_) | (with_reducible refine Below.drew ?_) | (with_reducible refine Blk.new' ?_ ?_ <;> first | (with_reducible rfl) | (simp; done)) | (with_reducible refine Blk.alloc ?_ _) | (with_reducible refine RowIn.alloc ?_ _) | (with_reducible refine Below.alloc ?_ ?_ _) | (with_reducible apply Blk.set') | (with_reducible apply Blk.far') | (with_reducible refine RowIn.far' ?_ ?_ _) | (with_reducible refine Below.far' ?_ ?_ _) | rfl | omega | go_size)


end Go.Proofs.Ytpohaikbbfochaa
