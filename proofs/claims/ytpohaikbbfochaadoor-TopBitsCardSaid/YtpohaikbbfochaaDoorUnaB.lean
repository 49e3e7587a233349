/-
  Contract of Read of runs.
-/
import Derived.Test.YtpohaikbbfochaaDoorUnaA
import Derived.Test.YtpohaikbbfochaaDoorTzA
namespace Go.Proofs.YtpohaikbbfochaaDoor
open Go.RowKit Cad Cad.Bit Cad.Code
set_option linter.unusedVariables false
set_option linter.unusedSimpArgs false

/-- What Read returns: the number, the index behind it, the error. -/
def urR (bs : List Bool) (p : Int) : Int × Int × Int :=
  if p < 0 then (0, 0, 2) else match readU (bs.drop p.toNat) with
    | .ok n m => ((n : Nat), p + (m : Nat), 0)
    | .err _ => (0, 0, 24)

set_option maxHeartbeats 400000 in
theorem take_any (gb ga : Nat) (A : Option Addr) (m c : Nat) (N p : Nat) (w : World) (hN : N ≤ 330000) (hp : p ≤ N) (hb : Blk w gb 26 [.slice A m c, .int .i64 (N : Nat)]) (ha : Blk w ga 3 [.int .i64 (p : Nat)]) :
    Calls Tryd.prog 45 #[.pointer (some ⟨gb, 0, none⟩), .pointer (some ⟨ga, 0, none⟩)] w fun e w' => ∃ y : Nat, e = .returned (.int .i64 (y : Int)) ∧ Hid (y = min 48 (N - p)) ∧ w = w' := by
  have kb := hb.cell; have ka := ha.cell
  by_cases h : 48 ≤ N - p
  · have h' : (48 : Int) ≤ (N : Int) - (p : Int) := by omega
    go_enter Tryd.func45, Tryd.ntmps45
    go_wp2
    go_ret
    exact ⟨48, rfl, Lib.hid (by omega), rfl⟩
  · obtain ⟨y, hy⟩ : ∃ y, N - p = y := ⟨_, rfl⟩
    have h' : (N : Int) - (p : Int) = (y : Int) := by omega
    have h2 : ¬ (48 : Int) ≤ (y : Int) := by omega
    have HY := Lib.hid hy
    clear hy h
    go_enter Tryd.func45, Tryd.ntmps45
    go_wp2
    go_ret
    exact ⟨y, rfl, Lib.hid (by have := HY.out; omega), rfl⟩


theorem readU_take {l : List Bool} {K n : Nat} (hK : K = min 48 l.length) (hn : n = ones (l.take K)) :
    (n < K → readU l = .ok n (n + 1)) ∧ (n = 48 → readU l = .ok 48 48) ∧ (¬ n < K → n ≠ 48 → readU l = .err 24) ∧ n ≤ K := by
  have e : ones (l.take 48) = n := by
    rw [hn, hK, ones_take, ones_take]; have := ones_le l; omega
  have hle : n ≤ K := by rw [hn, ones_take]; omega
  unfold readU
  rw [e]
  refine ⟨fun h => ?_, fun h => ?_, fun h1 h2 => ?_, hle⟩
  · rw [if_neg (by omega), if_pos (by omega)]
  · rw [if_pos h]
  · rw [if_neg h2, if_neg (by omega)]

set_option maxRecDepth 100000 in
set_option maxHeartbeats 1000000 in
theorem uread_ret (A : Option Addr) (m c : Nat) (bs : List Bool) (p : Int) (w : World) (ha : Row .u8 w A m (pack bs)) (hc : m ≤ c ∧ c ≤ 9223372036854775807) (hl : bs.length ≤ 330000) (hp : -9223372036854775808 ≤ p ∧ p ≤ 9223372036854775807) (ht : Tab w) :
    Calls Tryd.prog 17 #[.agg #[.slice A m c, .int .i64 ((bs.length : Nat) : Int)], .int .i64 p] w fun e w' => e = .returned (.tuple #[.int .i64 (urR bs p).1, .int .i64 (urR bs p).2.1, .int .i64 (urR bs p).2.2]) ∧ Below w.heap.size w w' := by
  have hri := ha.rowIn
  have hti : RowIn .u8 w 0 w.heap.size (some ⟨0, 0, none⟩) 64 dbTab := ht.rowIn
  have hmf : ∀ (fn : Fn) (first cap : Array Value) (w : World), (Instr.makeFunc fn first cap).run Tryd.prog w = .ok (.func fn first cap) w := fun _ _ _ _ => rfl
  by_cases h1 : p < 0
  · have HR : Hid (urR bs p = (0, 0, 2)) := by unfold urR; rw [if_pos h1]; rfl
    go_enter Tryd.func17, Tryd.ntmps17
    go_wp2_with fail
    refine (bcheck_ok A m c bs _ (by exact ((ha.alloc _).alloc _)) (by omega) hl).mono ?_
    rintro e w1 ⟨rfl, b1⟩
    have s1 := b1.size
    try simp only [World.size_alloc, World.size_setCell, World.size_drew, size_drewN] at s1
    obtain ⟨zb_1, zp_1, rb_1, rt_1, bb_1⟩ : Blk w1 (w.heap.size) 26 [.slice A m c, .int .i64 ((bs.length : Nat) : Int)] ∧ Blk w1 (w.heap.size + 1) 3 [.int .i64 p] ∧ RowIn .u8 w1 (0) (w.heap.size) A m (pack bs) ∧ RowIn .u8 w1 (0) (w.heap.size) (some ⟨0, 0, none⟩) 64 dbTab ∧ Below w.heap.size w w1 := by
      refine ⟨?_, ?_, ?_, ?_, ?_⟩
      all_goals repeat' (first | (with_reducible assumption) | (with_reducible exact Below.refl _ _) | (with_reducible refine Blk.after ?_ b1) | (with_reducible refine RowIn.belowS ?_ b1) | (with_reducible refine Below.after ?_ b1 ?_) | (with_reducible refine Blk.drewN ?_ _) | (with_reducible refine RowIn.drewN ?_ _) | (with_reducible refine below_drewN ?_ _) | (with_reducible refine Blk.drew ?_) | (with_reducible refine RowIn.drew ?_) | (with_reducible refine Below.drew ?_) | (with_reducible refine Blk.new' ?_ ?_ <;> first | (with_reducible rfl) | (simp; done)) | (with_reducible refine Blk.alloc ?_ _) | (with_reducible refine RowIn.alloc ?_ _) | (with_reducible refine Below.alloc ?_ ?_ _) | (with_reducible apply Blk.set') | (with_reducible refine Blk.far' ?_ ?_ _) | (with_reducible refine RowIn.far' ?_ ?_ _) | (with_reducible refine Below.far' ?_ ?_ _) | rfl | omega | go_size)
    clear b1
    have kb_1 := zb_1.cell; have fb_1 := zb_1.frozen; have lb_1 := zb_1.lt
    have kp_1 := zp_1.cell; have fp_1 := zp_1.frozen; have lp_1 := zp_1.lt
    go_wp2
    go_ret3
    refine ⟨by rw [HR.out]; rfl, ?_⟩
    repeat' (first | (with_reducible assumption) | (with_reducible exact Below.refl _ _) | (with_reducible refine Blk.drewN ?_ _) | (with_reducible refine RowIn.drewN ?_ _) | (with_reducible refine below_drewN ?_ _) | (with_reducible refine Blk.drew ?_) | (with_reducible refine RowIn.drew ?_) | (with_reducible refine Below.drew ?_) | (with_reducible refine Blk.new' ?_ ?_ <;> first | (with_reducible rfl) | (simp; done)) | (with_reducible refine Blk.alloc ?_ _) | (with_reducible refine RowIn.alloc ?_ _) | (with_reducible refine Below.alloc ?_ ?_ _) | (with_reducible apply Blk.set') | (with_reducible refine Blk.far' ?_ ?_ _) | (with_reducible refine RowIn.far' ?_ ?_ _) | (with_reducible refine Below.far' ?_ ?_ _) | rfl | omega | go_size)
  obtain ⟨i, rfl⟩ := Int.eq_ofNat_of_zero_le (by omega : 0 ≤ p)
  by_cases h2 : bs.length ≤ i
  · have HR : Hid (urR bs (i : Nat) = (0, 0, 24)) := by
      unfold urR; rw [if_neg h1, Int.toNat_natCast, List.drop_of_length_le h2]; rfl
    go_enter Tryd.func17, Tryd.ntmps17
    go_wp2_with fail
    refine (bcheck_ok A m c bs _ (by exact ((ha.alloc _).alloc _)) (by omega) hl).mono ?_
    rintro e w1 ⟨rfl, b1⟩
    have s1 := b1.size
    try simp only [World.size_alloc, World.size_setCell, World.size_drew, size_drewN] at s1
    obtain ⟨zb_1, zp_1, rb_1, rt_1, bb_1⟩ : Blk w1 (w.heap.size) 26 [.slice A m c, .int .i64 ((bs.length : Nat) : Int)] ∧ Blk w1 (w.heap.size + 1) 3 [.int .i64 ((i : Nat) : Int)] ∧ RowIn .u8 w1 (0) (w.heap.size) A m (pack bs) ∧ RowIn .u8 w1 (0) (w.heap.size) (some ⟨0, 0, none⟩) 64 dbTab ∧ Below w.heap.size w w1 := by
      refine ⟨?_, ?_, ?_, ?_, ?_⟩
      all_goals repeat' (first | (with_reducible assumption) | (with_reducible exact Below.refl _ _) | (with_reducible refine Blk.after ?_ b1) | (with_reducible refine RowIn.belowS ?_ b1) | (with_reducible refine Below.after ?_ b1 ?_) | (with_reducible refine Blk.drewN ?_ _) | (with_reducible refine RowIn.drewN ?_ _) | (with_reducible refine below_drewN ?_ _) | (with_reducible refine Blk.drew ?_) | (with_reducible refine RowIn.drew ?_) | (with_reducible refine Below.drew ?_) | (with_reducible refine Blk.new' ?_ ?_ <;> first | (with_reducible rfl) | (simp; done)) | (with_reducible refine Blk.alloc ?_ _) | (with_reducible refine RowIn.alloc ?_ _) | (with_reducible refine Below.alloc ?_ ?_ _) | (with_reducible apply Blk.set') | (with_reducible refine Blk.far' ?_ ?_ _) | (with_reducible refine RowIn.far' ?_ ?_ _) | (with_reducible refine Below.far' ?_ ?_ _) | rfl | omega | go_size)
    clear b1
    have kb_1 := zb_1.cell; have fb_1 := zb_1.frozen; have lb_1 := zb_1.lt
    have kp_1 := zp_1.cell; have fp_1 := zp_1.frozen; have lp_1 := zp_1.lt
    go_wp2
    go_ret3
    refine ⟨by rw [HR.out]; rfl, ?_⟩
    repeat' (first | (with_reducible assumption) | (with_reducible exact Below.refl _ _) | (with_reducible refine Blk.drewN ?_ _) | (with_reducible refine RowIn.drewN ?_ _) | (with_reducible refine below_drewN ?_ _) | (with_reducible refine Blk.drew ?_) | (with_reducible refine RowIn.drew ?_) | (with_reducible refine Below.drew ?_) | (with_reducible refine Blk.new' ?_ ?_ <;> first | (with_reducible rfl) | (simp; done)) | (with_reducible refine Blk.alloc ?_ _) | (with_reducible refine RowIn.alloc ?_ _) | (with_reducible refine Below.alloc ?_ ?_ _) | (with_reducible apply Blk.set') | (with_reducible refine Blk.far' ?_ ?_ _) | (with_reducible refine RowIn.far' ?_ ?_ _) | (with_reducible refine Below.far' ?_ ?_ _) | rfl | omega | go_size)
  have hib : i < bs.length := by omega
  have hlen : (bs.drop i).length = bs.length - i := List.length_drop ..
  have HLEN := Lib.hid hlen
  clear h1 h2 hlen
  go_enter Tryd.func17, Tryd.ntmps17
  go_wp2_with fail
  refine (bcheck_ok A m c bs _ (by exact ((ha.alloc _).alloc _)) (by omega) hl).mono ?_
  rintro e w1 ⟨rfl, b1⟩
  have s1 := b1.size
  try simp only [World.size_alloc, World.size_setCell, World.size_drew, size_drewN] at s1
  obtain ⟨zb_1, zp_1, rb_1, rt_1, bb_1⟩ : Blk w1 (w.heap.size) 26 [.slice A m c, .int .i64 ((bs.length : Nat) : Int)] ∧ Blk w1 (w.heap.size + 1) 3 [.int .i64 ((i : Nat) : Int)] ∧ RowIn .u8 w1 (0) (w.heap.size) A m (pack bs) ∧ RowIn .u8 w1 (0) (w.heap.size) (some ⟨0, 0, none⟩) 64 dbTab ∧ Below w.heap.size w w1 := by
    refine ⟨?_, ?_, ?_, ?_, ?_⟩
    all_goals repeat' (first | (with_reducible assumption) | (with_reducible exact Below.refl _ _) | (with_reducible refine Blk.after ?_ b1) | (with_reducible refine RowIn.belowS ?_ b1) | (with_reducible refine Below.after ?_ b1 ?_) | (with_reducible refine Blk.drewN ?_ _) | (with_reducible refine RowIn.drewN ?_ _) | (with_reducible refine below_drewN ?_ _) | (with_reducible refine Blk.drew ?_) | (with_reducible refine RowIn.drew ?_) | (with_reducible refine Below.drew ?_) | (with_reducible refine Blk.new' ?_ ?_ <;> first | (with_reducible rfl) | (simp; done)) | (with_reducible refine Blk.alloc ?_ _) | (with_reducible refine RowIn.alloc ?_ _) | (with_reducible refine Below.alloc ?_ ?_ _) | (with_reducible apply Blk.set') | (with_reducible refine Blk.far' ?_ ?_ _) | (with_reducible refine RowIn.far' ?_ ?_ _) | (with_reducible refine Below.far' ?_ ?_ _) | rfl | omega | go_size)
  clear b1
  have kb_1 := zb_1.cell; have fb_1 := zb_1.frozen; have lb_1 := zb_1.lt
  have kp_1 := zp_1.cell; have fp_1 := zp_1.frozen; have lp_1 := zp_1.lt
  go_wp2_with fail
  have hK0 : ∀ K : Nat, Hid (K = min 48 (bs.length - i)) → K ≤ 48 ∧ K ≤ bs.length - i ∧ 1 ≤ K := fun K h => by have := h.out; omega
  have HK0 := Lib.hid hK0
  clear hK0
  go_region_law (first
    | (go_simp; go_at_call 45; refine (take_any _ _ A m c bs.length i _ hl (by omega) (by exact zb_1) (by exact zp_1)).mono ?_; rintro e _ ⟨K, rfl, HK, rfl⟩
       obtain ⟨hK1, hK2, hK3⟩ := HK0.out K HK)
    | (go_simp; go_at_call 15; refine (bget_ok A m c bs (i : Nat) (K : Nat) _ (by exact rb_1.row) hc hl (by omega) (by omega) (by omega)).mono ?_; rintro e w2 ⟨y, rfl, HY, b2⟩
       have s2 := b2.size
       try simp only [World.size_alloc, World.size_setCell, World.size_drew, size_drewN] at s2
       obtain ⟨zb_2, zp_2, rb_2, rt_2, bb_2⟩ : Blk w2 (w.heap.size) 26 [.slice A m c, .int .i64 ((bs.length : Nat) : Int)] ∧ Blk w2 (w.heap.size + 1) 3 [.int .i64 ((i : Nat) : Int)] ∧ RowIn .u8 w2 (0) (w.heap.size) A m (pack bs) ∧ RowIn .u8 w2 (0) (w.heap.size) (some ⟨0, 0, none⟩) 64 dbTab ∧ Below w.heap.size w w2 := by
         refine ⟨?_, ?_, ?_, ?_, ?_⟩
         all_goals repeat' (first | (with_reducible assumption) | (with_reducible exact Below.refl _ _) | (with_reducible refine Blk.after ?_ b2) | (with_reducible refine RowIn.belowS ?_ b2) | (with_reducible refine Below.after ?_ b2 ?_) | (with_reducible refine Blk.drewN ?_ _) | (with_reducible refine RowIn.drewN ?_ _) | (with_reducible refine below_drewN ?_ _) | (with_reducible refine Blk.drew ?_) | (with_reducible refine RowIn.drew ?_) | (with_reducible refine Below.drew ?_) | (with_reducible refine Blk.new' ?_ ?_ <;> first | (with_reducible rfl) | (simp; done)) | (with_reducible refine Blk.alloc ?_ _) | (with_reducible refine RowIn.alloc ?_ _) | (with_reducible refine Below.alloc ?_ ?_ _) | (with_reducible apply Blk.set') | (with_reducible refine Blk.far' ?_ ?_ _) | (with_reducible refine RowIn.far' ?_ ?_ _) | (with_reducible refine Below.far' ?_ ?_ _) | rfl | omega | go_size)
       clear zb_1 zp_1 rb_1 rt_1 bb_1 kb_1 fb_1 lb_1 kp_1 fp_1 lp_1 b2
       have kb_2 := zb_2.cell; have fb_2 := zb_2.frozen; have lb_2 := zb_2.lt
       have kp_2 := zp_2.cell; have fp_2 := zp_2.frozen; have lp_2 := zp_2.lt))
  all_goals
    rw [Int.toNat_natCast, Int.toNat_natCast] at HY
    have hy64 : y < 18446744073709551616 := by rw [HY.out]; exact Nat.lt_of_lt_of_le (bval_lt _) (pow_le_u64 (by have := List.length_take_le K (bs.drop i); omega))
    go_wp2_with fail
    refine (ntz_not ((bs.drop i).take K) _ w2 (by have := List.length_take_le K (bs.drop i); omega) (by rw [not64 y hy64, HY.out]) (by exact rt_2.row)).mono ?_
    rintro e _ ⟨n, rfl, HN, rfl⟩
    obtain ⟨c1, c2, c3, hnK⟩ := readU_take (l := bs.drop i) (by rw [HK.out, HLEN.out]) HN.out
    have C1 := Lib.hid c1; have C2 := Lib.hid c2; have C3 := Lib.hid c3
    clear c1 c2 c3
    go_wp2_with fail
    refine (take_any _ _ A m c bs.length i _ hl (by omega) (by exact zb_2) (by exact zp_2)).mono ?_
    rintro e _ ⟨K2, rfl, HK2, rfl⟩
    obtain rfl : K2 = K := by rw [HK2.out, HK.out]
    clear HK2
    by_cases hn1 : n < K2
    · have HR : Hid (urR bs (i : Nat) = (((n : Nat) : Int), (i : Int) + ((n + 1 : Nat) : Int), 0)) := by unfold urR; rw [if_neg (by omega), Int.toNat_natCast, C1.out hn1]; rfl
      go_wp2
      go_ret3
      refine ⟨by rw [HR.out]; go_num, ?_⟩
      exact bb_2
    by_cases hn2 : n = 48
    · have HR : Hid (urR bs (i : Nat) = (48, (i : Int) + 48, 0)) := by unfold urR; rw [if_neg (by omega), Int.toNat_natCast, C2.out hn2]; rfl
      subst hn2
      go_wp2
      go_ret3
      refine ⟨by rw [HR.out]; go_num, ?_⟩
      exact bb_2
    · have HR : Hid (urR bs (i : Nat) = (0, 0, 24)) := by unfold urR; rw [if_neg (by omega), Int.toNat_natCast, C3.out hn1 hn2]; rfl
      have t1 : ((n : Int) == 48) = false := beq_eq_false_iff_ne.2 (by omega)
      clear hn2
      go_wp2
      go_ret3
      refine ⟨by rw [HR.out]; rfl, ?_⟩
      exact bb_2


theorem uread_ok (A : Option Addr) (m c : Nat) (bs : List Bool) (p : Int) (n k : Nat) (w : World) (ha : Row .u8 w A m (pack bs)) (hc : m ≤ c ∧ c ≤ 9223372036854775807) (hl : bs.length ≤ 330000) (hp : 0 ≤ p ∧ p ≤ 9223372036854775807) (hr : readU (bs.drop p.toNat) = .ok n k) (ht : Tab w) :
    Calls Tryd.prog 17 #[.agg #[.slice A m c, .int .i64 ((bs.length : Nat) : Int)], .int .i64 p] w fun e w' => ∃ z : Nat, e = .returned (.tuple #[.int .i64 (n : Int), .int .i64 (z : Int), .int .i64 0]) ∧ Hid (z = p.toNat + k) ∧ Below w.heap.size w w' := by
  have h := uread_ret A m c bs p w ha hc hl (by omega) ht
  have e : urR bs p = ((n : Int), ((p.toNat + k : Nat) : Int), 0) := by unfold urR; rw [if_neg (by omega), hr]; simp; omega
  rw [e] at h
  exact h.mono fun e w' ⟨he, hb⟩ => ⟨_, he, Lib.hid rfl, hb⟩
theorem uread_short (A : Option Addr) (m c : Nat) (bs : List Bool) (p : Int) (k : Nat) (w : World) (ha : Row .u8 w A m (pack bs)) (hc : m ≤ c ∧ c ≤ 9223372036854775807) (hl : bs.length ≤ 330000) (hp : 0 ≤ p ∧ p ≤ 9223372036854775807) (hr : readU (bs.drop p.toNat) = .err k) (ht : Tab w) :
    Calls Tryd.prog 17 #[.agg #[.slice A m c, .int .i64 ((bs.length : Nat) : Int)], .int .i64 p] w fun e w' => e = .returned (.tuple #[.int .i64 0, .int .i64 0, .int .i64 24]) ∧ Below w.heap.size w w' := by
  have h := uread_ret A m c bs p w ha hc hl (by omega) ht
  have e : urR bs p = (0, 0, 24) := by unfold urR; rw [if_neg (by omega), hr]
  rw [e] at h
  exact h

set_option maxHeartbeats 400000 in
theorem uread_bad (A : Option Addr) (m c : Nat) (N : Int) (bytes : List Int) (p : Int) (w : World) (ha : Row .u8 w A m bytes) (hb : Within 0 255 bytes) (hc : m ≤ c ∧ c ≤ 9223372036854775807) (hv : ¬ Valid bytes N) :
    Calls Tryd.prog 17 #[.agg #[.slice A m c, .int .i64 N], .int .i64 p] w fun e w' => e = .returned (.tuple #[.int .i64 0, .int .i64 0, .int .i64 8]) ∧ Below w.heap.size w w' := by
  go_enter Tryd.func17, Tryd.ntmps17
  go_wp2_with fail
  refine (bcheck_bad A m c N bytes _ (by exact ((ha.alloc _).alloc _)) hb (by omega) hv).mono ?_
  rintro e w1 ⟨rfl, b1⟩
  have s1 := b1.size
  try simp only [World.size_alloc, World.size_setCell, World.size_drew, size_drewN] at s1
  obtain ⟨zb_1, bb_1⟩ : Blk w1 (w.heap.size) 26 [.slice A m c, .int .i64 N] ∧ Below w.heap.size w w1 := by
    refine ⟨?_, ?_⟩
    all_goals repeat' (first | (with_reducible assumption) | (with_reducible exact Below.refl _ _) | (with_reducible refine Blk.after ?_ b1) | (with_reducible refine RowIn.belowS ?_ b1) | (with_reducible refine Below.after ?_ b1 ?_) | (with_reducible refine Blk.drewN ?_ _) | (with_reducible refine RowIn.drewN ?_ _) | (with_reducible refine below_drewN ?_ _) | (with_reducible refine Blk.drew ?_) | (with_reducible refine RowIn.drew ?_) | (with_reducible refine Below.drew ?_) | (with_reducible refine Blk.new' ?_ ?_ <;> first | (with_reducible rfl) | (simp; done)) | (with_reducible refine Blk.alloc ?_ _) | (with_reducible refine RowIn.alloc ?_ _) | (with_reducible refine Below.alloc ?_ ?_ _) | (with_reducible apply Blk.set') | (with_reducible refine Blk.far' ?_ ?_ _) | (with_reducible refine RowIn.far' ?_ ?_ _) | (with_reducible refine Below.far' ?_ ?_ _) | rfl | omega | go_size)
  clear b1
  have kb_1 := zb_1.cell; have fb_1 := zb_1.frozen; have lb_1 := zb_1.lt
  go_wp2
  go_ret3
  refine ⟨rfl, ?_⟩
  repeat' (first | (with_reducible assumption) | (with_reducible exact Below.refl _ _) | (with_reducible refine Blk.drewN ?_ _) | (with_reducible refine RowIn.drewN ?_ _) | (with_reducible refine below_drewN ?_ _) | (with_reducible refine Blk.drew ?_) | (with_reducible refine RowIn.drew ?_) | (with_reducible refine Below.drew ?_) | (with_reducible refine Blk.new' ?_ ?_ <;> first | (with_reducible rfl) | (simp; done)) | (with_reducible refine Blk.alloc ?_ _) | (with_reducible refine RowIn.alloc ?_ _) | (with_reducible refine Below.alloc ?_ ?_ _) | (with_reducible apply Blk.set') | (with_reducible refine Blk.far' ?_ ?_ _) | (with_reducible refine RowIn.far' ?_ ?_ _) | (with_reducible refine Below.far' ?_ ?_ _) | rfl | omega | go_size)


end Go.Proofs.YtpohaikbbfochaaDoor
