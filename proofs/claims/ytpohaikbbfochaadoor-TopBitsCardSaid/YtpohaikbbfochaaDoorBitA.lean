/-
  Contracts of the program's bits: checking, getting, putting in place.
-/
import Derived.Test.YtpohaikbbfochaaDoorRows
import Derived.Test.YtpohaikbbfochaaDoorBitW
namespace Go.Proofs.YtpohaikbbfochaaDoor
open Go.RowKit Cad Cad.Bit
set_option linter.unusedVariables false

def chkB (bytes : List Int) (N : Int) : Int := if Valid bytes N then 0 else 8

set_option maxHeartbeats 400000 in
theorem bcheck_any (A : Option Addr) (n c : Nat) (N : Int) (bytes : List Int) (w : World) (ha : Row .u8 w A n bytes) (hb : Within 0 255 bytes) (hn : n ≤ 9223372036854775807) :
    Calls Tryd.prog 34 #[.agg #[.slice A n c, .int .i64 N]] w fun e w' => e = .returned (.int .i64 (chkB bytes N)) ∧ Below w.heap.size w w' := by
  have HX := Lib.hid ha.len
  by_cases h1 : N < 0
  · have HE : Hid (chkB bytes N = 8) := by unfold chkB; rw [if_neg (fun h => by have := h.1; omega)]; rfl
    go_enter Tryd.func34, Tryd.ntmps34
    go_wp2
    go_ret
    exact ⟨ret_int HE.out.symm, (Below.refl _ _).alloc (Nat.le_refl _) _⟩
  by_cases h2 : 330000 < N
  · have HE : Hid (chkB bytes N = 8) := by unfold chkB; rw [if_neg (fun h => by have := h.2.1; omega)]; rfl
    go_enter Tryd.func34, Tryd.ntmps34
    go_wp2
    go_ret
    exact ⟨ret_int HE.out.symm, (Below.refl _ _).alloc (Nat.le_refl _) _⟩
  obtain ⟨m, rfl⟩ := Int.eq_ofNat_of_zero_le (by omega : 0 ≤ N)
  have hm : m ≤ 330000 := by omega
  clear h1 h2
  have hand := and7 m (by omega)
  by_cases hl : n = (m + 7) / 8
  · have hl' : ((n : Int) != ((m : Int) + 7) / 8) = false := by simp; omega
    by_cases hr : m % 8 = 0
    · have HE : Hid (chkB bytes (m : Nat) = 0) := by
        unfold chkB; rw [if_pos ⟨by omega, by omega, by rw [HX.out, hl]; rfl, fun h => by rw [Int.toNat_natCast] at h; omega⟩]; rfl
      have hr' : ((m % 8 : Nat) : Int) ≤ 0 := by omega
      have HL := Lib.hid hl; have HR := Lib.hid hr; clear hl hr
      go_enter Tryd.func34, Tryd.ntmps34
      go_wp2
      go_ret
      exact ⟨ret_int HE.out.symm, (Below.refl _ _).alloc (Nat.le_refl _) _⟩
    · have hn0 : 0 < n := by omega
      obtain ⟨b, o, rfl, hbk, hc⟩ := ha.at hn0
      have c1 : (w.alloc (.cells #[.slice (some ⟨b, o, none⟩) n c, .int .i64 (m : Int)] 26)).cell? ⟨b, o + (n - 1), none⟩ = some (.int .u8 (nth bytes (n - 1))) := by
        rw [World.cell?_alloc_past _ _ _ hbk]; exact hc (n - 1) (by omega)
      have bd := hb.nth (by decide) (by decide) (n - 1)
      have hr' : 0 < ((m % 8 : Nat) : Int) := by omega
      have hr8 : ((m % 8 : Nat) : Int) ≤ 7 := by omega
      have HL := Lib.hid hl; have HR := Lib.hid hr; clear hl hr hc
      have HB := Lib.hid (rfl : chkB bytes (m : Nat) = if Valid bytes (m : Nat) then 0 else 8)
      obtain ⟨r, hrr⟩ : ∃ r, m % 8 = r := ⟨_, rfl⟩
      rw [hrr] at hand hr' hr8
      have HRR := Lib.hid hrr; clear hrr
      go_enter Tryd.func34, Tryd.ntmps34
      go_wp2
      · have ht : (nth bytes (n - 1) / 2 ^ r != 0) = true := by assumption
        go_ret
        refine ⟨ret_int ?_, (Below.refl _ _).alloc (Nat.le_refl _) _⟩
        unfold chkB
        rw [if_neg (fun h => by
          have h4 := h.2.2.2
          rw [HX.out, Int.toNat_natCast, HRR.out] at h4
          rw [h4 (by omega)] at ht
          exact absurd ht (by decide))]
      · have ht : (nth bytes (n - 1) / 2 ^ r != 0) = false := by assumption
        go_ret
        refine ⟨ret_int ?_, (Below.refl _ _).alloc (Nat.le_refl _) _⟩
        unfold chkB
        rw [if_pos ⟨by omega, by omega, by rw [HX.out, HL.out]; rfl, fun h => by
          rw [HX.out, Int.toNat_natCast, HRR.out]
          simpa using ht⟩]
  · have hl' : ((n : Int) != ((m : Int) + 7) / 8) = true := by simp; omega
    have HE : Hid (chkB bytes (m : Nat) = 8) := by
      unfold chkB; rw [if_neg (fun h => hl (by have := h.2.2.1; rw [HX.out, Int.toNat_natCast] at this; exact this))]; rfl
    clear hl
    go_enter Tryd.func34, Tryd.ntmps34
    go_wp2
    go_ret
    exact ⟨ret_int HE.out.symm, (Below.refl _ _).alloc (Nat.le_refl _) _⟩

theorem bcheck_ok (A : Option Addr) (n c : Nat) (bs : List Bool) (w : World) (ha : Row .u8 w A n (pack bs)) (hn : n ≤ 9223372036854775807) (hl : bs.length ≤ 330000) :
    Calls Tryd.prog 34 #[.agg #[.slice A n c, .int .i64 (bs.length : Nat)]] w fun e w' => e = .returned (.int .i64 0) ∧ Below w.heap.size w w' :=
  (bcheck_any A n c (bs.length : Nat) (pack bs) w ha (pack_u8 bs) hn).mono fun e w' h => ⟨by rw [h.1]; unfold chkB; rw [if_pos (valid_pack hl)], h.2⟩

set_option maxHeartbeats 400000 in
theorem get_any (A : Option Addr) (m c : Nat) (N : Int) (bs : List Bool) (p n : Nat) (w : World) (ha : Row .u8 w A m (pack bs)) (hm : m ≤ 9223372036854775807) (hp : p + n ≤ bs.length) (hl : bs.length ≤ 330000) (hn : n ≤ 64) :
    Calls Tryd.prog 43 #[.agg #[.slice A m c, .int .i64 N], .int .i64 p, .int .i64 n] w fun e w' => e = .returned (.int .u64 (bval ((bs.drop p).take n) : Nat)) ∧ Below w.heap.size w w' := by
  have HX := Lib.hid ha.len
  go_enter Tryd.func43, Tryd.ntmps43
  go_wp2_with fail
  go_loopg [7, 8] n (fun k v i wr => ∃ h : Nat, h + k = n ∧ i = .int .i64 h ∧ v = .int .u64 (bval ((bs.drop p).take h) : Nat) ∧ ∃ q, wr = (w.alloc (.cells #[.slice A m c, .int .i64 N] 26)).drewN q)
  case atStart => exact ⟨0, by omega, rfl, rfl, 0, rfl⟩
  case round =>
    obtain ⟨h, hk, rfl, rfl, q, rfl⟩ := hrel
    by_cases hlt : h < n
    · have hand := and7 (p + h) (by omega)
      have hbn : (p + h) / 8 < bytesFor bs.length := by unfold bytesFor; omega
      have hm0 : (p + h) / 8 < m := by have h1 := HX.out; rw [pack_len] at h1; omega
      obtain ⟨b, o, rfl, hbk, hc⟩ := ha.at (by omega)
      have c1 : (w.alloc (.cells #[.slice (some ⟨b, o, none⟩) m c, .int .i64 N] 26)).cell? ⟨b, o + (p + h) / 8, none⟩ = some (.int .u8 (byteAt bs ((p + h) / 8) : Nat)) := by
        rw [World.cell?_alloc_past _ _ _ hbk, hc _ hm0, nth_pack hbn]
      clear hc
      obtain ⟨s, hs⟩ : ∃ s, (p + h) % 8 = s := ⟨_, rfl⟩
      have hs8 : s ≤ 7 := by omega
      rw [hs] at hand
      have hand' : bits .and .i64 ((p : Int) + (h : Int)) 7 = (s : Int) := by rw [← hand]; congr 1
      have HS := Lib.hid hs
      clear hand hs
      have fin : ∀ t : Nat, 1 ≤ t → s + t ≤ 8 → h + t ≤ n → Hid (bits .or .u64 ((bval ((bs.drop p).take h) : Nat) : Int) (IntKind.u64.wrap (IntKind.u64.wrap (bits .and .u8 (((byteAt bs ((p + h) / 8) : Nat) : Int) / 2 ^ s) ((2 ^ t - 1) % 256)) * 2 ^ h)) = ((bval ((bs.drop p).take (h + t)) : Nat) : Int)) :=
        fun t h1 h2 h3 => get_step HS.out h2 (by omega) (by omega)
      have FIN := Lib.hid fin; clear fin
      by_cases ht : n - h ≤ 8 - s
      · obtain ⟨t, htt⟩ : ∃ t, n - h = t := ⟨_, rfl⟩
        have hsub : (n : Int) - (h : Int) = (t : Int) := by omega
        have ht8 : t ≤ 8 := by omega
        have hst : s + t ≤ 8 := by omega
        have hmin' : (t : Int) ≤ 8 - (s : Int) := by omega
        go_wp2_with fail
        have ht1 : 1 ≤ t := by omega
        have hht : h + t ≤ n := by omega
        clear hsub htt ht
        go_quiet (fail)
        rw [(FIN.out t ht1 hst hht).out]
        go_wp2
        go_roundg (n - (h + t))
        case measure => omega
        case rel => exact ⟨h + t, by omega, by go_num, rfl, _, rfl⟩
      · obtain ⟨t, htt⟩ : ∃ t, 8 - s = t := ⟨_, rfl⟩
        have hsub : 8 - (s : Int) = (t : Int) := by omega
        have ht8 : t ≤ 8 := by omega
        have hst : s + t ≤ 8 := by omega
        have hmin' : ¬ (n : Int) - (h : Int) ≤ (t : Int) := by omega
        go_wp2_with fail
        have ht1 : 1 ≤ t := by omega
        have hht : h + t ≤ n := by omega
        clear hsub htt ht
        go_quiet (fail)
        rw [(FIN.out t ht1 hst hht).out]
        go_wp2
        go_roundg (n - (h + t))
        case measure => omega
        case rel => exact ⟨h + t, by omega, by go_num, rfl, _, rfl⟩
    · obtain rfl : h = n := by omega
      go_wp2
      go_ret
      exact ⟨rfl, below_drewN ((Below.refl _ _).alloc (Nat.le_refl _) _) _⟩
end Go.Proofs.YtpohaikbbfochaaDoor
