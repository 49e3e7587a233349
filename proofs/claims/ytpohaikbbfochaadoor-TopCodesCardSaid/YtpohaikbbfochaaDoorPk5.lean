/-
  Texts joined (RefC, BitX, RefD, DualD).
-/
import Derived.Test.YtpohaikbbfochaaDoorPk4
/-
  Contract of the reference's Add: a bit behind bits of the call's own.
-/
namespace Go.Proofs.YtpohaikbbfochaaDoor
open Go.RowKit Cad Cad.Bit
set_option linter.unusedVariables false
set_option linter.unusedSimpArgs false

/-- What a function ends in that puts bits behind bits of the call's own. -/
def Grew (w : World) (base : Nat) (A : Option Addr) (l : List Bool) (e : Ending) (w' : World) : Prop :=
  ∃ (B : Option Addr) (m' d : Nat) (bs' : List Bool), e = .returned (.agg #[.slice B m' d, .int .i64 (bs'.length : Nat)]) ∧ Own w' base 5 .u8 B m' d (pack bs') ∧ Hid (bs' = l) ∧ Frm (fun k => blockOf A = some k) w w' ∧ (∀ k, blockOf B = some k → k < w.heap.size → blockOf A = some k)

/-- The byte that Add makes. -/
theorem add_in {bs : List Bool} {z y : Nat} (b : Bool) (hs : 0 < bs.length % 8) (hz : z = 2 ^ (bs.length % 8)) (hy : y = byteAt bs (bs.length / 8)) : (pack bs).set (bs.length / 8) ((y + (if b then 1 else 0) * z : Nat) : Int) = pack (bs ++ [b]) := by
  have h := pack_append_in (a := bs) (b := [b]) hs (by simp) (by simp; omega)
  rw [← h, hy, hz]
  congr 2
  cases b <;> simp [bval]
theorem add_new {bs : List Bool} (b : Bool) (hs : bs.length % 8 = 0) : (pack bs ++ [0]).set (bs.length / 8) ((0 + (if b then 1 else 0) * 1 : Nat) : Int) = pack (bs ++ [b]) := by
  have h := pack_append_new (a := bs) (b := [b]) hs (by simp) (by simp)
  have hl : (pack bs).length = bs.length / 8 := by rw [pack_len]; unfold bytesFor; omega
  rw [← h, List.set_append_right _ _ (by omega), hl, Nat.sub_self]
  cases b <;> simp [bval]


end Go.Proofs.YtpohaikbbfochaaDoor

/-
  Bytes of bits, and bits of bytes, plainly.
-/
namespace Cad.Bit
open Go Go.RowKit Cad
set_option linter.unusedVariables false

theorem one_bit {bs : List Bool} {i : Nat} (h : i < bs.length) : (bs.drop i).take 1 = [bs[i]] := by rw [List.drop_eq_getElem_cons h]; rfl
theorem bit_at {bs : List Bool} {i : Nat} (h : i < bs.length) : byteAt bs (i / 8) / 2 ^ (i % 8) % 2 = if bs[i] then 1 else 0 := by
  have p := byte_part (bs := bs) (p := i) (t := 1) (by omega) (by omega)
  rw [one_bit h] at p
  rw [show (2 : Nat) ^ 1 = 2 from rfl] at p
  rw [p]; simp [bval]
theorem unpack_pack_len (bs : List Bool) : (unpack (pack bs)).length = 8 * bytesFor bs.length := by rw [unpack_len, pack_len]
theorem unpack_pack_take (bs : List Bool) : (unpack (pack bs)).take bs.length = bs := by
  have hl := unpack_pack_len bs
  have hlen : bs.length ≤ (unpack (pack bs)).length := by rw [hl]; unfold bytesFor; omega
  apply List.ext_getElem (by rw [List.length_take]; omega)
  intro i h1 h2
  rw [List.getElem_take]
  have hi : i / 8 < bytesFor bs.length := by unfold bytesFor; omega
  have hb : byteAt (unpack (pack bs)) (i / 8) = byteAt bs (i / 8) := by
    have e := byteAt_unpack (bytes := pack bs) (i := i / 8) (by rw [pack_len]; exact hi) (pack_u8 bs)
    rw [nth_pack hi] at e
    omega
  have a := bit_at (bs := unpack (pack bs)) (i := i) (by omega)
  have b := bit_at (bs := bs) h2
  rw [hb, b] at a
  revert a
  cases bs[i] <;> cases (unpack (pack bs))[i] <;> simp
theorem pack_whole {bs : List Bool} (h : bs.length % 8 = 0) : unpack (pack bs) = bs := by
  have h1 := unpack_pack_take bs
  rwa [List.take_of_length_le (by rw [unpack_pack_len]; unfold bytesFor; omega)] at h1

end Cad.Bit

/-
  Contracts of the reference of chapter 2: copies, parts, joining.
-/
namespace Go.Proofs.YtpohaikbbfochaaDoor
open Go.RowKit Cad Cad.Bit
set_option linter.unusedVariables false
set_option linter.unusedSimpArgs false

/-- The bit with an index. -/
def bitAt (bs : List Bool) (i : Nat) : Bool := bs.getD i false
theorem bitAt_eq {bs : List Bool} {i : Nat} (h : i < bs.length) : bitAt bs i = bs[i] := by unfold bitAt; rw [List.getD_eq_getElem?_getD, List.getElem?_eq_getElem h]; rfl
theorem rat_bit (A : Option Addr) (n c : Nat) (N : Int) (bs : List Bool) (i : Int) (w : World) (ha : Row .u8 w A n (pack bs)) (h0 : 0 ≤ i) (hi : i < (bs.length : Int)) (hl : bs.length ≤ 330000) (hn : n ≤ 9223372036854775807) :
    Calls Tryd.prog 42 #[.agg #[.slice A n c, .int .i64 N], .int .i64 i] w fun e w' => ∃ v : Nat, e = .returned (.int .i64 (v : Int)) ∧ Hid ((v : Int) = if bitAt bs i.toNat then 1 else 0) ∧ v ≤ 1 ∧ Below w.heap.size w w' := by
  obtain ⟨i, rfl⟩ := Int.eq_ofNat_of_zero_le h0
  have hi' : i < bs.length := by omega
  have hb : i / 8 < bytesFor bs.length := by unfold bytesFor; omega
  have hnl : n = bytesFor bs.length := by have := ha.len; rw [pack_len] at this; exact this.symm
  refine (rat_any A n c N (pack bs) i (byteAt bs (i / 8)) w ha (by omega) (nth_pack hb) (byteAt_lt _ _) (by omega) hn).mono ?_
  rintro e w' ⟨rfl, hbel⟩
  have e1 := bit_at hi'
  refine ⟨_, rfl, Lib.hid ?_, by omega, hbel⟩
  rw [e1, Int.toNat_natCast, bitAt_eq hi']
  cases bs[i] <;> rfl
theorem take_bit {bs : List Bool} {i j : Nat} (h : i + j < bs.length) : (bs.drop i).take j ++ [bitAt bs (i + j)] = (bs.drop i).take (j + 1) := by
  rw [List.take_succ_eq_append_getElem (by rw [List.length_drop]; omega), bitAt_eq h, List.getElem_drop]


end Go.Proofs.YtpohaikbbfochaaDoor

/-
  Contract of reading a code of two levels.
-/
namespace Go.Proofs.YtpohaikbbfochaaDoor
open Go.RowKit Cad Cad.Bit Cad.Code
set_option linter.unusedVariables false
set_option linter.unusedSimpArgs false


/-- A number, an index, a state and an error are returned. -/
def RetD (w : World) (r : Int × Int × Dual × Int) (e : Ending) (w' : World) : Prop :=
  ∃ u0 u1 v0 v1 : Nat, e = .returned (.tuple #[.int .u32 r.1, .int .i64 r.2.1, .agg #[.int .i64 (u0 : Int), .int .i64 (u1 : Int), .int .u64 (v0 : Int), .int .u64 (v1 : Int)], .int .i64 r.2.2.2]) ∧ Hid ((⟨u0, u1, v0, v1⟩ : Dual) = r.2.2.1) ∧ Below w.heap.size w w'
/-- What Read returns. -/
def drR (bs : List Bool) (p : Int) (d : Dual) : Int × Int × Dual × Int :=
  if p < 0 then (0, 0, dualZero, 2) else match readD (bs.drop p.toNat) d with
    | .ok v n => ((v : Nat), p + (n : Nat), learn d v, 0)
    | .err e => (0, 0, dualZero, (e : Nat))
theorem readD_nil {l : List Bool} {d : Dual} (h : l = []) : readD l d = .err 24 := by subst h; rfl
theorem readD_zero {bs : List Bool} {i : Nat} {d : Dual} (h : i < bs.length) (hb : bitAt bs i = false) : readD (bs.drop i) d = if bs.length - (i + 1) < d.k0 then .err 24 else .ok (bval ((bs.drop (i + 1)).take d.k0)) (1 + d.k0) := by
  rw [bitAt_eq h] at hb
  rw [List.drop_eq_getElem_cons h, hb, readD, List.length_drop]
theorem readD_one {bs : List Bool} {i : Nat} {d : Dual} (h : i < bs.length) (hb : bitAt bs i = true) : readD (bs.drop i) d = match readR (bs.drop (i + 1)) d.k1 with | .err e => .err e | .ok v n => if 4294967296 ≤ v + 2 ^ d.k0 then .err 12 else .ok (v + 2 ^ d.k0) (1 + n) := by
  rw [bitAt_eq h] at hb
  rw [List.drop_eq_getElem_cons h, hb, readD]
  cases readR (bs.drop (i + 1)) d.k1 <;> rfl
theorem bval_one {bs : List Bool} {i : Nat} (h : i < bs.length) : bval ((bs.drop i).take 1) = if bitAt bs i then 1 else 0 := by
  rw [bitAt_eq h, List.drop_eq_getElem_cons h, List.take_succ_cons, List.take_zero]; cases bs[i] <;> rfl

set_option maxRecDepth 100000 in
set_option maxHeartbeats 4000000 in
theorem dRead_ret (A : Option Addr) (m c : Nat) (bs : List Bool) (p : Int) (p0 p1 q0 q1 : Nat) (w : World) (ha : Row .u8 w A m (pack bs)) (hc : m ≤ c ∧ c ≤ 9223372036854775807) (hl : bs.length ≤ 330000) (hp : -9223372036854775808 ≤ p ∧ p ≤ 9223372036854775807) (hd : Dual.Ok ⟨p0, p1, q0, q1⟩) (ht : Tab w) :
    Calls Tryd.prog 57 #[.agg #[.slice A m c, .int .i64 ((bs.length : Nat) : Int)], .int .i64 p, .agg #[.int .i64 (p0 : Int), .int .i64 (p1 : Int), .int .u64 (q0 : Int), .int .u64 (q1 : Int)]] w (RetD w (drR bs p ⟨p0, p1, q0, q1⟩)) := by
  have hri := ha.rowIn
  have hti : RowIn .u8 w 0 w.heap.size (some ⟨0, 0, none⟩) 64 dbTab := ht.rowIn
  obtain ⟨hd0, hd1, hd2, hd3⟩ : p0 ≤ 24 ∧ p1 ≤ 24 ∧ q0 ≤ 68719476735 ∧ q1 ≤ 68719476735 := id hd
  by_cases h1 : p < 0
  · have HR : Hid (drR bs p ⟨p0, p1, q0, q1⟩ = (0, 0, dualZero, 2)) := by unfold drR; rw [if_pos h1]; exact Lib.hid rfl
    have HG : Hid (getR bs p (1 : Int) = (0, 2)) := by unfold getR; rw [if_pos (by omega)]; exact Lib.hid rfl
    go_enter Tryd.func57, Tryd.ntmps57
    go_wp2_with fail
    refine (bcheck_ok A m c bs _ (by exact RowIn.row (lo := 0) (hi := w.heap.size) (by repeat' (first | (with_reducible assumption) | (with_reducible exact Below.refl _ _) | (with_reducible refine Blk.drewN ?_ _) | (with_reducible refine RowIn.drewN ?_ _) | (with_reducible refine below_drewN ?_ _) | (with_reducible refine Blk.drew ?_) | (with_reducible refine RowIn.drew ?_) | (with_reducible refine Below.drew ?_) | (with_reducible refine Blk.new' ?_ ?_ <;> first | (with_reducible rfl) | (simp; done)) | (with_reducible refine Blk.alloc ?_ _) | (with_reducible refine RowIn.alloc ?_ _) | (with_reducible refine Below.alloc ?_ ?_ _) | (with_reducible apply Blk.set') | (with_reducible apply Blk.far') | (with_reducible refine RowIn.far' ?_ ?_ _) | (with_reducible refine Below.far' ?_ ?_ _) | rfl | omega | go_size))) (by omega) hl).mono ?_
    rintro e w1 ⟨rfl, b1⟩
    have s1 := b1.size
    try simp only [World.size_alloc, World.size_setCell, World.size_drew, size_drewN] at s1
    obtain ⟨zb_1, zd_1, zx_1, rb_1, rt_1, bb_1⟩ : Blk w1 (w.heap.size) 26 [.slice A m c, .int .i64 ((bs.length : Nat) : Int)] ∧ Blk w1 (w.heap.size + 1) 62 [.int .i64 (p0 : Int), .int .i64 (p1 : Int), .int .u64 (q0 : Int), .int .u64 (q1 : Int)] ∧ Blk w1 (w.heap.size + 1 + 1) 62 [.int .i64 0, .int .i64 0, .int .u64 0, .int .u64 0] ∧ RowIn .u8 w1 (0) (w.heap.size) A m (pack bs) ∧ RowIn .u8 w1 (0) (w.heap.size) (some ⟨0, 0, none⟩) 64 dbTab ∧ Below w.heap.size w w1 := by
      refine ⟨?_, ?_, ?_, ?_, ?_, ?_⟩
      all_goals repeat' (first | (with_reducible assumption) | (with_reducible exact Below.refl _ _) | (with_reducible refine Blk.after ?_ b1) | (with_reducible refine RowIn.belowS ?_ b1) | (with_reducible refine Below.after ?_ b1 ?_) | (with_reducible refine Blk.drewN ?_ _) | (with_reducible refine RowIn.drewN ?_ _) | (with_reducible refine below_drewN ?_ _) | (with_reducible refine Blk.drew ?_) | (with_reducible refine RowIn.drew ?_) | (with_reducible refine Below.drew ?_) | (with_reducible refine Blk.new' ?_ ?_ <;> first | (with_reducible rfl) | (simp; done)) | (with_reducible refine Blk.alloc ?_ _) | (with_reducible refine RowIn.alloc ?_ _) | (with_reducible refine Below.alloc ?_ ?_ _) | (with_reducible apply Blk.set') | (with_reducible apply Blk.far') | (with_reducible refine RowIn.far' ?_ ?_ _) | (with_reducible refine Below.far' ?_ ?_ _) | rfl | omega | go_size)
    clear b1
    have kb_1 := zb_1.cell; have fb_1 := zb_1.frozen; have lb_1 := zb_1.lt
    have kd_1 := zd_1.cell; have fd_1 := zd_1.frozen; have ld_1 := zd_1.lt
    have kx_1 := zx_1.cell; have fx_1 := zx_1.frozen; have lx_1 := zx_1.lt
    go_wp2_with fail
    refine (dcheck_ok p0 p1 q0 q1 _ hd).mono ?_
    rintro e w2 ⟨rfl, b2⟩
    have s2 := b2.size
    try simp only [World.size_alloc, World.size_setCell, World.size_drew, size_drewN] at s2
    obtain ⟨zb_2, zd_2, zx_2, rb_2, rt_2, bb_2⟩ : Blk w2 (w.heap.size) 26 [.slice A m c, .int .i64 ((bs.length : Nat) : Int)] ∧ Blk w2 (w.heap.size + 1) 62 [.int .i64 (p0 : Int), .int .i64 (p1 : Int), .int .u64 (q0 : Int), .int .u64 (q1 : Int)] ∧ Blk w2 (w.heap.size + 1 + 1) 62 [.int .i64 0, .int .i64 0, .int .u64 0, .int .u64 0] ∧ RowIn .u8 w2 (0) (w.heap.size) A m (pack bs) ∧ RowIn .u8 w2 (0) (w.heap.size) (some ⟨0, 0, none⟩) 64 dbTab ∧ Below w.heap.size w w2 := by
      refine ⟨?_, ?_, ?_, ?_, ?_, ?_⟩
      all_goals repeat' (first | (with_reducible assumption) | (with_reducible exact Below.refl _ _) | (with_reducible refine Blk.after ?_ b2) | (with_reducible refine RowIn.belowS ?_ b2) | (with_reducible refine Below.after ?_ b2 ?_) | (with_reducible refine Blk.drewN ?_ _) | (with_reducible refine RowIn.drewN ?_ _) | (with_reducible refine below_drewN ?_ _) | (with_reducible refine Blk.drew ?_) | (with_reducible refine RowIn.drew ?_) | (with_reducible refine Below.drew ?_) | (with_reducible refine Blk.new' ?_ ?_ <;> first | (with_reducible rfl) | (simp; done)) | (with_reducible refine Blk.alloc ?_ _) | (with_reducible refine RowIn.alloc ?_ _) | (with_reducible refine Below.alloc ?_ ?_ _) | (with_reducible apply Blk.set') | (with_reducible apply Blk.far') | (with_reducible refine RowIn.far' ?_ ?_ _) | (with_reducible refine Below.far' ?_ ?_ _) | rfl | omega | go_size)
    clear zb_1 zd_1 zx_1 rb_1 rt_1 bb_1 kb_1 fb_1 lb_1 kd_1 fd_1 ld_1 kx_1 fx_1 lx_1 b2
    have kb_2 := zb_2.cell; have fb_2 := zb_2.frozen; have lb_2 := zb_2.lt
    have kd_2 := zd_2.cell; have fd_2 := zd_2.frozen; have ld_2 := zd_2.lt
    have kx_2 := zx_2.cell; have fx_2 := zx_2.frozen; have lx_2 := zx_2.lt
    go_wp2_with fail
    have hg := bget_ret A m c bs (p) (1 : Int) w2 rb_2.row hc hl (by omega) (by omega)
    rw [HG.out] at hg
    replace hg := Lib.hid hg
    refine (hg.out).mono ?_
    rintro e w3 ⟨rfl, b3⟩
    have s3 := b3.size
    try simp only [World.size_alloc, World.size_setCell, World.size_drew, size_drewN] at s3
    obtain ⟨zb_3, zd_3, zx_3, rb_3, rt_3, bb_3⟩ : Blk w3 (w.heap.size) 26 [.slice A m c, .int .i64 ((bs.length : Nat) : Int)] ∧ Blk w3 (w.heap.size + 1) 62 [.int .i64 (p0 : Int), .int .i64 (p1 : Int), .int .u64 (q0 : Int), .int .u64 (q1 : Int)] ∧ Blk w3 (w.heap.size + 1 + 1) 62 [.int .i64 0, .int .i64 0, .int .u64 0, .int .u64 0] ∧ RowIn .u8 w3 (0) (w.heap.size) A m (pack bs) ∧ RowIn .u8 w3 (0) (w.heap.size) (some ⟨0, 0, none⟩) 64 dbTab ∧ Below w.heap.size w w3 := by
      refine ⟨?_, ?_, ?_, ?_, ?_, ?_⟩
      all_goals repeat' (first | (with_reducible assumption) | (with_reducible exact Below.refl _ _) | (with_reducible refine Blk.after ?_ b3) | (with_reducible refine RowIn.belowS ?_ b3) | (with_reducible refine Below.after ?_ b3 ?_) | (with_reducible refine Blk.drewN ?_ _) | (with_reducible refine RowIn.drewN ?_ _) | (with_reducible refine below_drewN ?_ _) | (with_reducible refine Blk.drew ?_) | (with_reducible refine RowIn.drew ?_) | (with_reducible refine Below.drew ?_) | (with_reducible refine Blk.new' ?_ ?_ <;> first | (with_reducible rfl) | (simp; done)) | (with_reducible refine Blk.alloc ?_ _) | (with_reducible refine RowIn.alloc ?_ _) | (with_reducible refine Below.alloc ?_ ?_ _) | (with_reducible apply Blk.set') | (with_reducible apply Blk.far') | (with_reducible refine RowIn.far' ?_ ?_ _) | (with_reducible refine Below.far' ?_ ?_ _) | rfl | omega | go_size)
    clear zb_2 zd_2 zx_2 rb_2 rt_2 bb_2 kb_2 fb_2 lb_2 kd_2 fd_2 ld_2 kx_2 fx_2 lx_2 b3
    have kb_3 := zb_3.cell; have fb_3 := zb_3.frozen; have lb_3 := zb_3.lt
    have kd_3 := zd_3.cell; have fd_3 := zd_3.frozen; have ld_3 := zd_3.lt
    have kx_3 := zx_3.cell; have fx_3 := zx_3.frozen; have lx_3 := zx_3.lt
    clear hg
    go_wp2
    refine bodyPost_ret (v := .tuple #[.int .u32 0, .int .i64 0, .agg #[.int .i64 0, .int .i64 0, .int .u64 0, .int .u64 0], .int .i64 2]) (by simp [results, Tryd.results57, go_sem, kx_3, lx_3]) rfl ?_
    rw [HR.out]
    refine ⟨0, 0, 0, 0, rfl, Lib.hid rfl, ?_⟩
    repeat' (first | (with_reducible assumption) | (with_reducible exact Below.refl _ _) | (with_reducible refine Blk.drewN ?_ _) | (with_reducible refine RowIn.drewN ?_ _) | (with_reducible refine below_drewN ?_ _) | (with_reducible refine Blk.drew ?_) | (with_reducible refine RowIn.drew ?_) | (with_reducible refine Below.drew ?_) | (with_reducible refine Blk.new' ?_ ?_ <;> first | (with_reducible rfl) | (simp; done)) | (with_reducible refine Blk.alloc ?_ _) | (with_reducible refine RowIn.alloc ?_ _) | (with_reducible refine Below.alloc ?_ ?_ _) | (with_reducible apply Blk.set') | (with_reducible apply Blk.far') | (with_reducible refine RowIn.far' ?_ ?_ _) | (with_reducible refine Below.far' ?_ ?_ _) | rfl | omega | go_size)
  obtain ⟨i, rfl⟩ := Int.eq_ofNat_of_zero_le (by omega : 0 ≤ p)
  have HR0 : Hid (drR bs (i : Nat) ⟨p0, p1, q0, q1⟩ = match readD (bs.drop i) ⟨p0, p1, q0, q1⟩ with | .ok v n => (((v : Nat) : Int), (i : Int) + ((n : Nat) : Int), learn ⟨p0, p1, q0, q1⟩ v, 0) | .err e => (0, 0, dualZero, ((e : Nat) : Int))) := by unfold drR; rw [if_neg h1]; exact Lib.hid rfl
  clear h1
  by_cases h2 : bs.length ≤ i
  · have HR : Hid (drR bs (i : Nat) ⟨p0, p1, q0, q1⟩ = (0, 0, dualZero, 24)) := by rw [HR0.out, readD_nil (List.drop_of_length_le h2)]; exact Lib.hid rfl
    have HG : Hid (getR bs (i : Nat) (1 : Int) = (0, 24)) := by unfold getR; rw [if_neg (by omega), if_pos (by omega)]; exact Lib.hid rfl
    go_enter Tryd.func57, Tryd.ntmps57
    go_wp2_with fail
    refine (bcheck_ok A m c bs _ (by exact RowIn.row (lo := 0) (hi := w.heap.size) (by repeat' (first | (with_reducible assumption) | (with_reducible exact Below.refl _ _) | (with_reducible refine Blk.drewN ?_ _) | (with_reducible refine RowIn.drewN ?_ _) | (with_reducible refine below_drewN ?_ _) | (with_reducible refine Blk.drew ?_) | (with_reducible refine RowIn.drew ?_) | (with_reducible refine Below.drew ?_) | (with_reducible refine Blk.new' ?_ ?_ <;> first | (with_reducible rfl) | (simp; done)) | (with_reducible refine Blk.alloc ?_ _) | (with_reducible refine RowIn.alloc ?_ _) | (with_reducible refine Below.alloc ?_ ?_ _) | (with_reducible apply Blk.set') | (with_reducible apply Blk.far') | (with_reducible refine RowIn.far' ?_ ?_ _) | (with_reducible refine Below.far' ?_ ?_ _) | rfl | omega | go_size))) (by omega) hl).mono ?_
    rintro e w1 ⟨rfl, b1⟩
    have s1 := b1.size
    try simp only [World.size_alloc, World.size_setCell, World.size_drew, size_drewN] at s1
    obtain ⟨zb_1, zd_1, zx_1, rb_1, rt_1, bb_1⟩ : Blk w1 (w.heap.size) 26 [.slice A m c, .int .i64 ((bs.length : Nat) : Int)] ∧ Blk w1 (w.heap.size + 1) 62 [.int .i64 (p0 : Int), .int .i64 (p1 : Int), .int .u64 (q0 : Int), .int .u64 (q1 : Int)] ∧ Blk w1 (w.heap.size + 1 + 1) 62 [.int .i64 0, .int .i64 0, .int .u64 0, .int .u64 0] ∧ RowIn .u8 w1 (0) (w.heap.size) A m (pack bs) ∧ RowIn .u8 w1 (0) (w.heap.size) (some ⟨0, 0, none⟩) 64 dbTab ∧ Below w.heap.size w w1 := by
      refine ⟨?_, ?_, ?_, ?_, ?_, ?_⟩
      all_goals repeat' (first | (with_reducible assumption) | (with_reducible exact Below.refl _ _) | (with_reducible refine Blk.after ?_ b1) | (with_reducible refine RowIn.belowS ?_ b1) | (with_reducible refine Below.after ?_ b1 ?_) | (with_reducible refine Blk.drewN ?_ _) | (with_reducible refine RowIn.drewN ?_ _) | (with_reducible refine below_drewN ?_ _) | (with_reducible refine Blk.drew ?_) | (with_reducible refine RowIn.drew ?_) | (with_reducible refine Below.drew ?_) | (with_reducible refine Blk.new' ?_ ?_ <;> first | (with_reducible rfl) | (simp; done)) | (with_reducible refine Blk.alloc ?_ _) | (with_reducible refine RowIn.alloc ?_ _) | (with_reducible refine Below.alloc ?_ ?_ _) | (with_reducible apply Blk.set') | (with_reducible apply Blk.far') | (with_reducible refine RowIn.far' ?_ ?_ _) | (with_reducible refine Below.far' ?_ ?_ _) | rfl | omega | go_size)
    clear b1
    have kb_1 := zb_1.cell; have fb_1 := zb_1.frozen; have lb_1 := zb_1.lt
    have kd_1 := zd_1.cell; have fd_1 := zd_1.frozen; have ld_1 := zd_1.lt
    have kx_1 := zx_1.cell; have fx_1 := zx_1.frozen; have lx_1 := zx_1.lt
    go_wp2_with fail
    refine (dcheck_ok p0 p1 q0 q1 _ hd).mono ?_
    rintro e w2 ⟨rfl, b2⟩
    have s2 := b2.size
    try simp only [World.size_alloc, World.size_setCell, World.size_drew, size_drewN] at s2
    obtain ⟨zb_2, zd_2, zx_2, rb_2, rt_2, bb_2⟩ : Blk w2 (w.heap.size) 26 [.slice A m c, .int .i64 ((bs.length : Nat) : Int)] ∧ Blk w2 (w.heap.size + 1) 62 [.int .i64 (p0 : Int), .int .i64 (p1 : Int), .int .u64 (q0 : Int), .int .u64 (q1 : Int)] ∧ Blk w2 (w.heap.size + 1 + 1) 62 [.int .i64 0, .int .i64 0, .int .u64 0, .int .u64 0] ∧ RowIn .u8 w2 (0) (w.heap.size) A m (pack bs) ∧ RowIn .u8 w2 (0) (w.heap.size) (some ⟨0, 0, none⟩) 64 dbTab ∧ Below w.heap.size w w2 := by
      refine ⟨?_, ?_, ?_, ?_, ?_, ?_⟩
      all_goals repeat' (first | (with_reducible assumption) | (with_reducible exact Below.refl _ _) | (with_reducible refine Blk.after ?_ b2) | (with_reducible refine RowIn.belowS ?_ b2) | (with_reducible refine Below.after ?_ b2 ?_) | (with_reducible refine Blk.drewN ?_ _) | (with_reducible refine RowIn.drewN ?_ _) | (with_reducible refine below_drewN ?_ _) | (with_reducible refine Blk.drew ?_) | (with_reducible refine RowIn.drew ?_) | (with_reducible refine Below.drew ?_) | (with_reducible refine Blk.new' ?_ ?_ <;> first | (with_reducible rfl) | (simp; done)) | (with_reducible refine Blk.alloc ?_ _) | (with_reducible refine RowIn.alloc ?_ _) | (with_reducible refine Below.alloc ?_ ?_ _) | (with_reducible apply Blk.set') | (with_reducible apply Blk.far') | (with_reducible refine RowIn.far' ?_ ?_ _) | (with_reducible refine Below.far' ?_ ?_ _) | rfl | omega | go_size)
    clear zb_1 zd_1 zx_1 rb_1 rt_1 bb_1 kb_1 fb_1 lb_1 kd_1 fd_1 ld_1 kx_1 fx_1 lx_1 b2
    have kb_2 := zb_2.cell; have fb_2 := zb_2.frozen; have lb_2 := zb_2.lt
    have kd_2 := zd_2.cell; have fd_2 := zd_2.frozen; have ld_2 := zd_2.lt
    have kx_2 := zx_2.cell; have fx_2 := zx_2.frozen; have lx_2 := zx_2.lt
    go_wp2_with fail
    have hg := bget_ret A m c bs ((i : Nat) : Int) (1 : Int) w2 rb_2.row hc hl (by omega) (by omega)
    rw [HG.out] at hg
    replace hg := Lib.hid hg
    refine (hg.out).mono ?_
    rintro e w3 ⟨rfl, b3⟩
    have s3 := b3.size
    try simp only [World.size_alloc, World.size_setCell, World.size_drew, size_drewN] at s3
    obtain ⟨zb_3, zd_3, zx_3, rb_3, rt_3, bb_3⟩ : Blk w3 (w.heap.size) 26 [.slice A m c, .int .i64 ((bs.length : Nat) : Int)] ∧ Blk w3 (w.heap.size + 1) 62 [.int .i64 (p0 : Int), .int .i64 (p1 : Int), .int .u64 (q0 : Int), .int .u64 (q1 : Int)] ∧ Blk w3 (w.heap.size + 1 + 1) 62 [.int .i64 0, .int .i64 0, .int .u64 0, .int .u64 0] ∧ RowIn .u8 w3 (0) (w.heap.size) A m (pack bs) ∧ RowIn .u8 w3 (0) (w.heap.size) (some ⟨0, 0, none⟩) 64 dbTab ∧ Below w.heap.size w w3 := by
      refine ⟨?_, ?_, ?_, ?_, ?_, ?_⟩
      all_goals repeat' (first | (with_reducible assumption) | (with_reducible exact Below.refl _ _) | (with_reducible refine Blk.after ?_ b3) | (with_reducible refine RowIn.belowS ?_ b3) | (with_reducible refine Below.after ?_ b3 ?_) | (with_reducible refine Blk.drewN ?_ _) | (with_reducible refine RowIn.drewN ?_ _) | (with_reducible refine below_drewN ?_ _) | (with_reducible refine Blk.drew ?_) | (with_reducible refine RowIn.drew ?_) | (with_reducible refine Below.drew ?_) | (with_reducible refine Blk.new' ?_ ?_ <;> first | (with_reducible rfl) | (simp; done)) | (with_reducible refine Blk.alloc ?_ _) | (with_reducible refine RowIn.alloc ?_ _) | (with_reducible refine Below.alloc ?_ ?_ _) | (with_reducible apply Blk.set') | (with_reducible apply Blk.far') | (with_reducible refine RowIn.far' ?_ ?_ _) | (with_reducible refine Below.far' ?_ ?_ _) | rfl | omega | go_size)
    clear zb_2 zd_2 zx_2 rb_2 rt_2 bb_2 kb_2 fb_2 lb_2 kd_2 fd_2 ld_2 kx_2 fx_2 lx_2 b3
    have kb_3 := zb_3.cell; have fb_3 := zb_3.frozen; have lb_3 := zb_3.lt
    have kd_3 := zd_3.cell; have fd_3 := zd_3.frozen; have ld_3 := zd_3.lt
    have kx_3 := zx_3.cell; have fx_3 := zx_3.frozen; have lx_3 := zx_3.lt
    clear hg
    go_wp2
    refine bodyPost_ret (v := .tuple #[.int .u32 0, .int .i64 0, .agg #[.int .i64 0, .int .i64 0, .int .u64 0, .int .u64 0], .int .i64 24]) (by simp [results, Tryd.results57, go_sem, kx_3, lx_3]) rfl ?_
    rw [HR.out]
    refine ⟨0, 0, 0, 0, rfl, Lib.hid rfl, ?_⟩
    repeat' (first | (with_reducible assumption) | (with_reducible exact Below.refl _ _) | (with_reducible refine Blk.drewN ?_ _) | (with_reducible refine RowIn.drewN ?_ _) | (with_reducible refine below_drewN ?_ _) | (with_reducible refine Blk.drew ?_) | (with_reducible refine RowIn.drew ?_) | (with_reducible refine Below.drew ?_) | (with_reducible refine Blk.new' ?_ ?_ <;> first | (with_reducible rfl) | (simp; done)) | (with_reducible refine Blk.alloc ?_ _) | (with_reducible refine RowIn.alloc ?_ _) | (with_reducible refine Below.alloc ?_ ?_ _) | (with_reducible apply Blk.set') | (with_reducible apply Blk.far') | (with_reducible refine RowIn.far' ?_ ?_ _) | (with_reducible refine Below.far' ?_ ?_ _) | rfl | omega | go_size)
  have hi : i < bs.length := by omega
  obtain ⟨j, hj⟩ : ∃ j, j = i + 1 := ⟨_, rfl⟩
  have hji : (i : Int) + 1 = (j : Int) := by omega
  have hjl : j ≤ bs.length := by omega
  by_cases hb : bitAt bs i = true
  · have HRD : Hid (readD (bs.drop i) ⟨p0, p1, q0, q1⟩ = match readR (bs.drop j) p1 with | .err e => .err e | .ok v n => if 4294967296 ≤ v + 2 ^ p0 then .err 12 else .ok (v + 2 ^ p0) (1 + n)) := by rw [readD_one hi hb, hj]; exact Lib.hid rfl
    have HG : Hid (getR bs (i : Nat) (1 : Int) = (1, 0)) := by
      unfold getR; rw [if_neg (by omega), if_neg (by omega)]
      refine Lib.hid ?_
      rw [Int.toNat_natCast]
      show (bval ((bs.drop i).take 1), (0 : Int)) = _
      rw [bval_one hi, hb]; rfl
    clear hb
    cases hr : readR (bs.drop j) p1 with
    | err e =>
      have HR : Hid (drR bs (i : Nat) ⟨p0, p1, q0, q1⟩ = (0, 0, dualZero, (e : Int))) := by rw [HR0.out, HRD.out, hr]; exact Lib.hid rfl
      have he : ((e : Int) == 0) = false ∧ ((e : Int) != 0) = true := by rcases readR_err hr with rfl | ⟨rfl, _⟩ <;> exact ⟨rfl, rfl⟩
      obtain ⟨he1, he2⟩ := he
      have HRR := Lib.hid hr
      clear hr hj
      go_enter Tryd.func57, Tryd.ntmps57
      go_wp2_with fail
      refine (bcheck_ok A m c bs _ (by exact RowIn.row (lo := 0) (hi := w.heap.size) (by repeat' (first | (with_reducible assumption) | (with_reducible exact Below.refl _ _) | (with_reducible refine Blk.drewN ?_ _) | (with_reducible refine RowIn.drewN ?_ _) | (with_reducible refine below_drewN ?_ _) | (with_reducible refine Blk.drew ?_) | (with_reducible refine RowIn.drew ?_) | (with_reducible refine Below.drew ?_) | (with_reducible refine Blk.new' ?_ ?_ <;> first | (with_reducible rfl) | (simp; done)) | (with_reducible refine Blk.alloc ?_ _) | (with_reducible refine RowIn.alloc ?_ _) | (with_reducible refine Below.alloc ?_ ?_ _) | (with_reducible apply Blk.set') | (with_reducible apply Blk.far') | (with_reducible refine RowIn.far' ?_ ?_ _) | (with_reducible refine Below.far' ?_ ?_ _) | rfl | omega | go_size))) (by omega) hl).mono ?_
      rintro e w1 ⟨rfl, b1⟩
      have s1 := b1.size
      try simp only [World.size_alloc, World.size_setCell, World.size_drew, size_drewN] at s1
      obtain ⟨zb_1, zd_1, zx_1, rb_1, rt_1, bb_1⟩ : Blk w1 (w.heap.size) 26 [.slice A m c, .int .i64 ((bs.length : Nat) : Int)] ∧ Blk w1 (w.heap.size + 1) 62 [.int .i64 (p0 : Int), .int .i64 (p1 : Int), .int .u64 (q0 : Int), .int .u64 (q1 : Int)] ∧ Blk w1 (w.heap.size + 1 + 1) 62 [.int .i64 0, .int .i64 0, .int .u64 0, .int .u64 0] ∧ RowIn .u8 w1 (0) (w.heap.size) A m (pack bs) ∧ RowIn .u8 w1 (0) (w.heap.size) (some ⟨0, 0, none⟩) 64 dbTab ∧ Below w.heap.size w w1 := by
        refine ⟨?_, ?_, ?_, ?_, ?_, ?_⟩
        all_goals repeat' (first | (with_reducible assumption) | (with_reducible exact Below.refl _ _) | (with_reducible refine Blk.after ?_ b1) | (with_reducible refine RowIn.belowS ?_ b1) | (with_reducible refine Below.after ?_ b1 ?_) | (with_reducible refine Blk.drewN ?_ _) | (with_reducible refine RowIn.drewN ?_ _) | (with_reducible refine below_drewN ?_ _) | (with_reducible refine Blk.drew ?_) | (with_reducible refine RowIn.drew ?_) | (with_reducible refine Below.drew ?_) | (with_reducible refine Blk.new' ?_ ?_ <;> first | (with_reducible rfl) | (simp; done)) | (with_reducible refine Blk.alloc ?_ _) | (with_reducible refine RowIn.alloc ?_ _) | (with_reducible refine Below.alloc ?_ ?_ _) | (with_reducible apply Blk.set') | (with_reducible apply Blk.far') | (with_reducible refine RowIn.far' ?_ ?_ _) | (with_reducible refine Below.far' ?_ ?_ _) | rfl | omega | go_size)
      clear b1
      have kb_1 := zb_1.cell; have fb_1 := zb_1.frozen; have lb_1 := zb_1.lt
      have kd_1 := zd_1.cell; have fd_1 := zd_1.frozen; have ld_1 := zd_1.lt
      have kx_1 := zx_1.cell; have fx_1 := zx_1.frozen; have lx_1 := zx_1.lt
      go_wp2_with fail
      refine (dcheck_ok p0 p1 q0 q1 _ hd).mono ?_
      rintro e w2 ⟨rfl, b2⟩
      have s2 := b2.size
      try simp only [World.size_alloc, World.size_setCell, World.size_drew, size_drewN] at s2
      obtain ⟨zb_2, zd_2, zx_2, rb_2, rt_2, bb_2⟩ : Blk w2 (w.heap.size) 26 [.slice A m c, .int .i64 ((bs.length : Nat) : Int)] ∧ Blk w2 (w.heap.size + 1) 62 [.int .i64 (p0 : Int), .int .i64 (p1 : Int), .int .u64 (q0 : Int), .int .u64 (q1 : Int)] ∧ Blk w2 (w.heap.size + 1 + 1) 62 [.int .i64 0, .int .i64 0, .int .u64 0, .int .u64 0] ∧ RowIn .u8 w2 (0) (w.heap.size) A m (pack bs) ∧ RowIn .u8 w2 (0) (w.heap.size) (some ⟨0, 0, none⟩) 64 dbTab ∧ Below w.heap.size w w2 := by
        refine ⟨?_, ?_, ?_, ?_, ?_, ?_⟩
        all_goals repeat' (first | (with_reducible assumption) | (with_reducible exact Below.refl _ _) | (with_reducible refine Blk.after ?_ b2) | (with_reducible refine RowIn.belowS ?_ b2) | (with_reducible refine Below.after ?_ b2 ?_) | (with_reducible refine Blk.drewN ?_ _) | (with_reducible refine RowIn.drewN ?_ _) | (with_reducible refine below_drewN ?_ _) | (with_reducible refine Blk.drew ?_) | (with_reducible refine RowIn.drew ?_) | (with_reducible refine Below.drew ?_) | (with_reducible refine Blk.new' ?_ ?_ <;> first | (with_reducible rfl) | (simp; done)) | (with_reducible refine Blk.alloc ?_ _) | (with_reducible refine RowIn.alloc ?_ _) | (with_reducible refine Below.alloc ?_ ?_ _) | (with_reducible apply Blk.set') | (with_reducible apply Blk.far') | (with_reducible refine RowIn.far' ?_ ?_ _) | (with_reducible refine Below.far' ?_ ?_ _) | rfl | omega | go_size)
      clear zb_1 zd_1 zx_1 rb_1 rt_1 bb_1 kb_1 fb_1 lb_1 kd_1 fd_1 ld_1 kx_1 fx_1 lx_1 b2
      have kb_2 := zb_2.cell; have fb_2 := zb_2.frozen; have lb_2 := zb_2.lt
      have kd_2 := zd_2.cell; have fd_2 := zd_2.frozen; have ld_2 := zd_2.lt
      have kx_2 := zx_2.cell; have fx_2 := zx_2.frozen; have lx_2 := zx_2.lt
      go_wp2_with fail
      have hg := bget_ret A m c bs ((i : Nat) : Int) (1 : Int) w2 rb_2.row hc hl (by omega) (by omega)
      rw [HG.out] at hg
      replace hg := Lib.hid hg
      refine (hg.out).mono ?_
      rintro e w3 ⟨rfl, b3⟩
      have s3 := b3.size
      try simp only [World.size_alloc, World.size_setCell, World.size_drew, size_drewN] at s3
      obtain ⟨zb_3, zd_3, zx_3, rb_3, rt_3, bb_3⟩ : Blk w3 (w.heap.size) 26 [.slice A m c, .int .i64 ((bs.length : Nat) : Int)] ∧ Blk w3 (w.heap.size + 1) 62 [.int .i64 (p0 : Int), .int .i64 (p1 : Int), .int .u64 (q0 : Int), .int .u64 (q1 : Int)] ∧ Blk w3 (w.heap.size + 1 + 1) 62 [.int .i64 0, .int .i64 0, .int .u64 0, .int .u64 0] ∧ RowIn .u8 w3 (0) (w.heap.size) A m (pack bs) ∧ RowIn .u8 w3 (0) (w.heap.size) (some ⟨0, 0, none⟩) 64 dbTab ∧ Below w.heap.size w w3 := by
        refine ⟨?_, ?_, ?_, ?_, ?_, ?_⟩
        all_goals repeat' (first | (with_reducible assumption) | (with_reducible exact Below.refl _ _) | (with_reducible refine Blk.after ?_ b3) | (with_reducible refine RowIn.belowS ?_ b3) | (with_reducible refine Below.after ?_ b3 ?_) | (with_reducible refine Blk.drewN ?_ _) | (with_reducible refine RowIn.drewN ?_ _) | (with_reducible refine below_drewN ?_ _) | (with_reducible refine Blk.drew ?_) | (with_reducible refine RowIn.drew ?_) | (with_reducible refine Below.drew ?_) | (with_reducible refine Blk.new' ?_ ?_ <;> first | (with_reducible rfl) | (simp; done)) | (with_reducible refine Blk.alloc ?_ _) | (with_reducible refine RowIn.alloc ?_ _) | (with_reducible refine Below.alloc ?_ ?_ _) | (with_reducible apply Blk.set') | (with_reducible apply Blk.far') | (with_reducible refine RowIn.far' ?_ ?_ _) | (with_reducible refine Below.far' ?_ ?_ _) | rfl | omega | go_size)
      clear zb_2 zd_2 zx_2 rb_2 rt_2 bb_2 kb_2 fb_2 lb_2 kd_2 fd_2 ld_2 kx_2 fx_2 lx_2 b3
      have kb_3 := zb_3.cell; have fb_3 := zb_3.frozen; have lb_3 := zb_3.lt
      have kd_3 := zd_3.cell; have fd_3 := zd_3.frozen; have ld_3 := zd_3.lt
      have kx_3 := zx_3.cell; have fx_3 := zx_3.frozen; have lx_3 := zx_3.lt
      clear hg
      go_wp2_with fail
      refine (rread_err A m c bs ((j : Nat) : Int) p1 e w3 rb_3.row hc hl (by omega) hd1 (by rw [Int.toNat_natCast]; exact HRR.out) rt_3.row).mono ?_
      rintro e w4 ⟨rfl, b4⟩
      have s4 := b4.size
      try simp only [World.size_alloc, World.size_setCell, World.size_drew, size_drewN] at s4
      obtain ⟨zb_4, zd_4, zx_4, rb_4, rt_4, bb_4⟩ : Blk w4 (w.heap.size) 26 [.slice A m c, .int .i64 ((bs.length : Nat) : Int)] ∧ Blk w4 (w.heap.size + 1) 62 [.int .i64 (p0 : Int), .int .i64 (p1 : Int), .int .u64 (q0 : Int), .int .u64 (q1 : Int)] ∧ Blk w4 (w.heap.size + 1 + 1) 62 [.int .i64 0, .int .i64 0, .int .u64 0, .int .u64 0] ∧ RowIn .u8 w4 (0) (w.heap.size) A m (pack bs) ∧ RowIn .u8 w4 (0) (w.heap.size) (some ⟨0, 0, none⟩) 64 dbTab ∧ Below w.heap.size w w4 := by
        refine ⟨?_, ?_, ?_, ?_, ?_, ?_⟩
        all_goals repeat' (first | (with_reducible assumption) | (with_reducible exact Below.refl _ _) | (with_reducible refine Blk.after ?_ b4) | (with_reducible refine RowIn.belowS ?_ b4) | (with_reducible refine Below.after ?_ b4 ?_) | (with_reducible refine Blk.drewN ?_ _) | (with_reducible refine RowIn.drewN ?_ _) | (with_reducible refine below_drewN ?_ _) | (with_reducible refine Blk.drew ?_) | (with_reducible refine RowIn.drew ?_) | (with_reducible refine Below.drew ?_) | (with_reducible refine Blk.new' ?_ ?_ <;> first | (with_reducible rfl) | (simp; done)) | (with_reducible refine Blk.alloc ?_ _) | (with_reducible refine RowIn.alloc ?_ _) | (with_reducible refine Below.alloc ?_ ?_ _) | (with_reducible apply Blk.set') | (with_reducible apply Blk.far') | (with_reducible refine RowIn.far' ?_ ?_ _) | (with_reducible refine Below.far' ?_ ?_ _) | rfl | omega | go_size)
      clear zb_3 zd_3 zx_3 rb_3 rt_3 bb_3 kb_3 fb_3 lb_3 kd_3 fd_3 ld_3 kx_3 fx_3 lx_3 b4
      have kb_4 := zb_4.cell; have fb_4 := zb_4.frozen; have lb_4 := zb_4.lt
      have kd_4 := zd_4.cell; have fd_4 := zd_4.frozen; have ld_4 := zd_4.lt
      have kx_4 := zx_4.cell; have fx_4 := zx_4.frozen; have lx_4 := zx_4.lt
      go_wp2
      refine bodyPost_ret (v := .tuple #[.int .u32 0, .int .i64 0, .agg #[.int .i64 0, .int .i64 0, .int .u64 0, .int .u64 0], .int .i64 (e : Int)]) (by simp [results, Tryd.results57, go_sem, kx_4, lx_4]) rfl ?_
      rw [HR.out]
      refine ⟨0, 0, 0, 0, rfl, Lib.hid rfl, ?_⟩
      repeat' (first | (with_reducible assumption) | (with_reducible exact Below.refl _ _) | (with_reducible refine Blk.drewN ?_ _) | (with_reducible refine RowIn.drewN ?_ _) | (with_reducible refine below_drewN ?_ _) | (with_reducible refine Blk.drew ?_) | (with_reducible refine RowIn.drew ?_) | (with_reducible refine Below.drew ?_) | (with_reducible refine Blk.new' ?_ ?_ <;> first | (with_reducible rfl) | (simp; done)) | (with_reducible refine Blk.alloc ?_ _) | (with_reducible refine RowIn.alloc ?_ _) | (with_reducible refine Below.alloc ?_ ?_ _) | (with_reducible apply Blk.set') | (with_reducible apply Blk.far') | (with_reducible refine RowIn.far' ?_ ?_ _) | (with_reducible refine Below.far' ?_ ?_ _) | rfl | omega | go_size)
    | ok x n =>
      rw [hr] at HRD
      dsimp only at HRD
      have hx := readR_lt hd1 hr
      have HRR := Lib.hid hr
      clear hr
      obtain ⟨P, hP⟩ : ∃ P, P = 2 ^ p0 := ⟨_, rfl⟩
      have hP1 : 1 ≤ P := by rw [hP]; exact Nat.two_pow_pos p0
      have hP2 : P ≤ 16777216 := by rw [hP]; exact Nat.le_trans (Nat.pow_le_pow_right (by omega) hd0) (by decide)
      have hPi : (2 : Int) ^ p0 = (P : Int) := by rw [hP, pow_cast]
      have hPm : (P : Int) % 4294967296 = (P : Int) := by omega
      rw [← hP] at HRD
      clear hP
      by_cases h4 : 4294967296 ≤ x + P
      · have HR : Hid (drR bs (i : Nat) ⟨p0, p1, q0, q1⟩ = (0, 0, dualZero, 12)) := by rw [HR0.out, HRD.out, if_pos h4]; exact Lib.hid rfl
        obtain ⟨y, hy⟩ : ∃ y, y = x + P - 4294967296 := ⟨_, rfl⟩
        have hyw : IntKind.u32.wrap ((x : Int) + (P : Int)) = (y : Int) := by rw [IntKind.wrap_u32]; omega
        have hyw2 : ((x : Int) + (P : Int)) % 4294967296 = (y : Int) := by omega
        have t1 : (y : Int) < (x : Int) := by omega
        clear hy hj
        go_enter Tryd.func57, Tryd.ntmps57
        go_wp2_with fail
        refine (bcheck_ok A m c bs _ (by exact RowIn.row (lo := 0) (hi := w.heap.size) (by repeat' (first | (with_reducible assumption) | (with_reducible exact Below.refl _ _) | (with_reducible refine Blk.drewN ?_ _) | (with_reducible refine RowIn.drewN ?_ _) | (with_reducible refine below_drewN ?_ _) | (with_reducible refine Blk.drew ?_) | (with_reducible refine RowIn.drew ?_) | (with_reducible refine Below.drew ?_) | (with_reducible refine Blk.new' ?_ ?_ <;> first | (with_reducible rfl) | (simp; done)) | (with_reducible refine Blk.alloc ?_ _) | (with_reducible refine RowIn.alloc ?_ _) | (with_reducible refine Below.alloc ?_ ?_ _) | (with_reducible apply Blk.set') | (with_reducible apply Blk.far') | (with_reducible refine RowIn.far' ?_ ?_ _) | (with_reducible refine Below.far' ?_ ?_ _) | rfl | omega | go_size))) (by omega) hl).mono ?_
        rintro e w1 ⟨rfl, b1⟩
        have s1 := b1.size
        try simp only [World.size_alloc, World.size_setCell, World.size_drew, size_drewN] at s1
        obtain ⟨zb_1, zd_1, zx_1, rb_1, rt_1, bb_1⟩ : Blk w1 (w.heap.size) 26 [.slice A m c, .int .i64 ((bs.length : Nat) : Int)] ∧ Blk w1 (w.heap.size + 1) 62 [.int .i64 (p0 : Int), .int .i64 (p1 : Int), .int .u64 (q0 : Int), .int .u64 (q1 : Int)] ∧ Blk w1 (w.heap.size + 1 + 1) 62 [.int .i64 0, .int .i64 0, .int .u64 0, .int .u64 0] ∧ RowIn .u8 w1 (0) (w.heap.size) A m (pack bs) ∧ RowIn .u8 w1 (0) (w.heap.size) (some ⟨0, 0, none⟩) 64 dbTab ∧ Below w.heap.size w w1 := by
          refine ⟨?_, ?_, ?_, ?_, ?_, ?_⟩
          all_goals repeat' (first | (with_reducible assumption) | (with_reducible exact Below.refl _ _) | (with_reducible refine Blk.after ?_ b1) | (with_reducible refine RowIn.belowS ?_ b1) | (with_reducible refine Below.after ?_ b1 ?_) | (with_reducible refine Blk.drewN ?_ _) | (with_reducible refine RowIn.drewN ?_ _) | (with_reducible refine below_drewN ?_ _) | (with_reducible refine Blk.drew ?_) | (with_reducible refine RowIn.drew ?_) | (with_reducible refine Below.drew ?_) | (with_reducible refine Blk.new' ?_ ?_ <;> first | (with_reducible rfl) | (simp; done)) | (with_reducible refine Blk.alloc ?_ _) | (with_reducible refine RowIn.alloc ?_ _) | (with_reducible refine Below.alloc ?_ ?_ _) | (with_reducible apply Blk.set') | (with_reducible apply Blk.far') | (with_reducible refine RowIn.far' ?_ ?_ _) | (with_reducible refine Below.far' ?_ ?_ _) | rfl | omega | go_size)
        clear b1
        have kb_1 := zb_1.cell; have fb_1 := zb_1.frozen; have lb_1 := zb_1.lt
        have kd_1 := zd_1.cell; have fd_1 := zd_1.frozen; have ld_1 := zd_1.lt
        have kx_1 := zx_1.cell; have fx_1 := zx_1.frozen; have lx_1 := zx_1.lt
        go_wp2_with fail
        refine (dcheck_ok p0 p1 q0 q1 _ hd).mono ?_
        rintro e w2 ⟨rfl, b2⟩
        have s2 := b2.size
        try simp only [World.size_alloc, World.size_setCell, World.size_drew, size_drewN] at s2
        obtain ⟨zb_2, zd_2, zx_2, rb_2, rt_2, bb_2⟩ : Blk w2 (w.heap.size) 26 [.slice A m c, .int .i64 ((bs.length : Nat) : Int)] ∧ Blk w2 (w.heap.size + 1) 62 [.int .i64 (p0 : Int), .int .i64 (p1 : Int), .int .u64 (q0 : Int), .int .u64 (q1 : Int)] ∧ Blk w2 (w.heap.size + 1 + 1) 62 [.int .i64 0, .int .i64 0, .int .u64 0, .int .u64 0] ∧ RowIn .u8 w2 (0) (w.heap.size) A m (pack bs) ∧ RowIn .u8 w2 (0) (w.heap.size) (some ⟨0, 0, none⟩) 64 dbTab ∧ Below w.heap.size w w2 := by
          refine ⟨?_, ?_, ?_, ?_, ?_, ?_⟩
          all_goals repeat' (first | (with_reducible assumption) | (with_reducible exact Below.refl _ _) | (with_reducible refine Blk.after ?_ b2) | (with_reducible refine RowIn.belowS ?_ b2) | (with_reducible refine Below.after ?_ b2 ?_) | (with_reducible refine Blk.drewN ?_ _) | (with_reducible refine RowIn.drewN ?_ _) | (with_reducible refine below_drewN ?_ _) | (with_reducible refine Blk.drew ?_) | (with_reducible refine RowIn.drew ?_) | (with_reducible refine Below.drew ?_) | (with_reducible refine Blk.new' ?_ ?_ <;> first | (with_reducible rfl) | (simp; done)) | (with_reducible refine Blk.alloc ?_ _) | (with_reducible refine RowIn.alloc ?_ _) | (with_reducible refine Below.alloc ?_ ?_ _) | (with_reducible apply Blk.set') | (with_reducible apply Blk.far') | (with_reducible refine RowIn.far' ?_ ?_ _) | (with_reducible refine Below.far' ?_ ?_ _) | rfl | omega | go_size)
        clear zb_1 zd_1 zx_1 rb_1 rt_1 bb_1 kb_1 fb_1 lb_1 kd_1 fd_1 ld_1 kx_1 fx_1 lx_1 b2
        have kb_2 := zb_2.cell; have fb_2 := zb_2.frozen; have lb_2 := zb_2.lt
        have kd_2 := zd_2.cell; have fd_2 := zd_2.frozen; have ld_2 := zd_2.lt
        have kx_2 := zx_2.cell; have fx_2 := zx_2.frozen; have lx_2 := zx_2.lt
        go_wp2_with fail
        have hg := bget_ret A m c bs ((i : Nat) : Int) (1 : Int) w2 rb_2.row hc hl (by omega) (by omega)
        rw [HG.out] at hg
        replace hg := Lib.hid hg
        refine (hg.out).mono ?_
        rintro e w3 ⟨rfl, b3⟩
        have s3 := b3.size
        try simp only [World.size_alloc, World.size_setCell, World.size_drew, size_drewN] at s3
        obtain ⟨zb_3, zd_3, zx_3, rb_3, rt_3, bb_3⟩ : Blk w3 (w.heap.size) 26 [.slice A m c, .int .i64 ((bs.length : Nat) : Int)] ∧ Blk w3 (w.heap.size + 1) 62 [.int .i64 (p0 : Int), .int .i64 (p1 : Int), .int .u64 (q0 : Int), .int .u64 (q1 : Int)] ∧ Blk w3 (w.heap.size + 1 + 1) 62 [.int .i64 0, .int .i64 0, .int .u64 0, .int .u64 0] ∧ RowIn .u8 w3 (0) (w.heap.size) A m (pack bs) ∧ RowIn .u8 w3 (0) (w.heap.size) (some ⟨0, 0, none⟩) 64 dbTab ∧ Below w.heap.size w w3 := by
          refine ⟨?_, ?_, ?_, ?_, ?_, ?_⟩
          all_goals repeat' (first | (with_reducible assumption) | (with_reducible exact Below.refl _ _) | (with_reducible refine Blk.after ?_ b3) | (with_reducible refine RowIn.belowS ?_ b3) | (with_reducible refine Below.after ?_ b3 ?_) | (with_reducible refine Blk.drewN ?_ _) | (with_reducible refine RowIn.drewN ?_ _) | (with_reducible refine below_drewN ?_ _) | (with_reducible refine Blk.drew ?_) | (with_reducible refine RowIn.drew ?_) | (with_reducible refine Below.drew ?_) | (with_reducible refine Blk.new' ?_ ?_ <;> first | (with_reducible rfl) | (simp; done)) | (with_reducible refine Blk.alloc ?_ _) | (with_reducible refine RowIn.alloc ?_ _) | (with_reducible refine Below.alloc ?_ ?_ _) | (with_reducible apply Blk.set') | (with_reducible apply Blk.far') | (with_reducible refine RowIn.far' ?_ ?_ _) | (with_reducible refine Below.far' ?_ ?_ _) | rfl | omega | go_size)
        clear zb_2 zd_2 zx_2 rb_2 rt_2 bb_2 kb_2 fb_2 lb_2 kd_2 fd_2 ld_2 kx_2 fx_2 lx_2 b3
        have kb_3 := zb_3.cell; have fb_3 := zb_3.frozen; have lb_3 := zb_3.lt
        have kd_3 := zd_3.cell; have fd_3 := zd_3.frozen; have ld_3 := zd_3.lt
        have kx_3 := zx_3.cell; have fx_3 := zx_3.frozen; have lx_3 := zx_3.lt
        clear hg
        go_wp2_with fail
        refine (rread_ok A m c bs ((j : Nat) : Int) p1 x n w3 rb_3.row hc hl (by omega) hd1 (by rw [Int.toNat_natCast]; exact HRR.out) rt_3.row).mono ?_
        rintro e w4 ⟨z, rfl, HZ, b4⟩
        have s4 := b4.size
        try simp only [World.size_alloc, World.size_setCell, World.size_drew, size_drewN] at s4
        obtain ⟨zb_4, zd_4, zx_4, rb_4, rt_4, bb_4⟩ : Blk w4 (w.heap.size) 26 [.slice A m c, .int .i64 ((bs.length : Nat) : Int)] ∧ Blk w4 (w.heap.size + 1) 62 [.int .i64 (p0 : Int), .int .i64 (p1 : Int), .int .u64 (q0 : Int), .int .u64 (q1 : Int)] ∧ Blk w4 (w.heap.size + 1 + 1) 62 [.int .i64 0, .int .i64 0, .int .u64 0, .int .u64 0] ∧ RowIn .u8 w4 (0) (w.heap.size) A m (pack bs) ∧ RowIn .u8 w4 (0) (w.heap.size) (some ⟨0, 0, none⟩) 64 dbTab ∧ Below w.heap.size w w4 := by
          refine ⟨?_, ?_, ?_, ?_, ?_, ?_⟩
          all_goals repeat' (first | (with_reducible assumption) | (with_reducible exact Below.refl _ _) | (with_reducible refine Blk.after ?_ b4) | (with_reducible refine RowIn.belowS ?_ b4) | (with_reducible refine Below.after ?_ b4 ?_) | (with_reducible refine Blk.drewN ?_ _) | (with_reducible refine RowIn.drewN ?_ _) | (with_reducible refine below_drewN ?_ _) | (with_reducible refine Blk.drew ?_) | (with_reducible refine RowIn.drew ?_) | (with_reducible refine Below.drew ?_) | (with_reducible refine Blk.new' ?_ ?_ <;> first | (with_reducible rfl) | (simp; done)) | (with_reducible refine Blk.alloc ?_ _) | (with_reducible refine RowIn.alloc ?_ _) | (with_reducible refine Below.alloc ?_ ?_ _) | (with_reducible apply Blk.set') | (with_reducible apply Blk.far') | (with_reducible refine RowIn.far' ?_ ?_ _) | (with_reducible refine Below.far' ?_ ?_ _) | rfl | omega | go_size)
        clear zb_3 zd_3 zx_3 rb_3 rt_3 bb_3 kb_3 fb_3 lb_3 kd_3 fd_3 ld_3 kx_3 fx_3 lx_3 b4
        have kb_4 := zb_4.cell; have fb_4 := zb_4.frozen; have lb_4 := zb_4.lt
        have kd_4 := zd_4.cell; have fd_4 := zd_4.frozen; have ld_4 := zd_4.lt
        have kx_4 := zx_4.cell; have fx_4 := zx_4.frozen; have lx_4 := zx_4.lt
        go_wp2
        refine bodyPost_ret (v := .tuple #[.int .u32 0, .int .i64 0, .agg #[.int .i64 0, .int .i64 0, .int .u64 0, .int .u64 0], .int .i64 12]) (by simp [results, Tryd.results57, go_sem, kx_4, lx_4]) rfl ?_
        rw [HR.out]
        refine ⟨0, 0, 0, 0, rfl, Lib.hid rfl, ?_⟩
        repeat' (first | (with_reducible assumption) | (with_reducible exact Below.refl _ _) | (with_reducible refine Blk.drewN ?_ _) | (with_reducible refine RowIn.drewN ?_ _) | (with_reducible refine below_drewN ?_ _) | (with_reducible refine Blk.drew ?_) | (with_reducible refine RowIn.drew ?_) | (with_reducible refine Below.drew ?_) | (with_reducible refine Blk.new' ?_ ?_ <;> first | (with_reducible rfl) | (simp; done)) | (with_reducible refine Blk.alloc ?_ _) | (with_reducible refine RowIn.alloc ?_ _) | (with_reducible refine Below.alloc ?_ ?_ _) | (with_reducible apply Blk.set') | (with_reducible apply Blk.far') | (with_reducible refine RowIn.far' ?_ ?_ _) | (with_reducible refine Below.far' ?_ ?_ _) | rfl | omega | go_size)
      obtain ⟨y, hy⟩ : ∃ y, y = x + P := ⟨_, rfl⟩
      rw [if_neg h4, ← hy] at HRD
      have hy32 : y < 4294967296 := by omega
      have hyi : (x : Int) + (P : Int) = (y : Int) := by omega
      have t1 : ¬ (y : Int) < (x : Int) := by omega
      have HR : ∀ z : Nat, z = j + n → Hid (drR bs (i : Nat) ⟨p0, p1, q0, q1⟩ = ((y : Int), (z : Int), learn ⟨p0, p1, q0, q1⟩ y, 0)) := fun z hz => by rw [HR0.out, HRD.out]; refine Lib.hid ?_; simp only [Prod.mk.injEq, true_and, and_true]; omega
      replace HR := Lib.hid HR
      clear hy hj h4
      go_enter Tryd.func57, Tryd.ntmps57
      go_wp2_with fail
      refine (bcheck_ok A m c bs _ (by exact RowIn.row (lo := 0) (hi := w.heap.size) (by repeat' (first | (with_reducible assumption) | (with_reducible exact Below.refl _ _) | (with_reducible refine Blk.drewN ?_ _) | (with_reducible refine RowIn.drewN ?_ _) | (with_reducible refine below_drewN ?_ _) | (with_reducible refine Blk.drew ?_) | (with_reducible refine RowIn.drew ?_) | (with_reducible refine Below.drew ?_) | (with_reducible refine Blk.new' ?_ ?_ <;> first | (with_reducible rfl) | (simp; done)) | (with_reducible refine Blk.alloc ?_ _) | (with_reducible refine RowIn.alloc ?_ _) | (with_reducible refine Below.alloc ?_ ?_ _) | (with_reducible apply Blk.set') | (with_reducible apply Blk.far') | (with_reducible refine RowIn.far' ?_ ?_ _) | (with_reducible refine Below.far' ?_ ?_ _) | rfl | omega | go_size))) (by omega) hl).mono ?_
      rintro e w1 ⟨rfl, b1⟩
      have s1 := b1.size
      try simp only [World.size_alloc, World.size_setCell, World.size_drew, size_drewN] at s1
      obtain ⟨zb_1, zd_1, zx_1, rb_1, rt_1, bb_1⟩ : Blk w1 (w.heap.size) 26 [.slice A m c, .int .i64 ((bs.length : Nat) : Int)] ∧ Blk w1 (w.heap.size + 1) 62 [.int .i64 (p0 : Int), .int .i64 (p1 : Int), .int .u64 (q0 : Int), .int .u64 (q1 : Int)] ∧ Blk w1 (w.heap.size + 1 + 1) 62 [.int .i64 0, .int .i64 0, .int .u64 0, .int .u64 0] ∧ RowIn .u8 w1 (0) (w.heap.size) A m (pack bs) ∧ RowIn .u8 w1 (0) (w.heap.size) (some ⟨0, 0, none⟩) 64 dbTab ∧ Below w.heap.size w w1 := by
        refine ⟨?_, ?_, ?_, ?_, ?_, ?_⟩
        all_goals repeat' (first | (with_reducible assumption) | (with_reducible exact Below.refl _ _) | (with_reducible refine Blk.after ?_ b1) | (with_reducible refine RowIn.belowS ?_ b1) | (with_reducible refine Below.after ?_ b1 ?_) | (with_reducible refine Blk.drewN ?_ _) | (with_reducible refine RowIn.drewN ?_ _) | (with_reducible refine below_drewN ?_ _) | (with_reducible refine Blk.drew ?_) | (with_reducible refine RowIn.drew ?_) | (with_reducible refine Below.drew ?_) | (with_reducible refine Blk.new' ?_ ?_ <;> first | (with_reducible rfl) | (simp; done)) | (with_reducible refine Blk.alloc ?_ _) | (with_reducible refine RowIn.alloc ?_ _) | (with_reducible refine Below.alloc ?_ ?_ _) | (with_reducible apply Blk.set') | (with_reducible apply Blk.far') | (with_reducible refine RowIn.far' ?_ ?_ _) | (with_reducible refine Below.far' ?_ ?_ _) | rfl | omega | go_size)
      clear b1
      have kb_1 := zb_1.cell; have fb_1 := zb_1.frozen; have lb_1 := zb_1.lt
      have kd_1 := zd_1.cell; have fd_1 := zd_1.frozen; have ld_1 := zd_1.lt
      have kx_1 := zx_1.cell; have fx_1 := zx_1.frozen; have lx_1 := zx_1.lt
      go_wp2_with fail
      refine (dcheck_ok p0 p1 q0 q1 _ hd).mono ?_
      rintro e w2 ⟨rfl, b2⟩
      have s2 := b2.size
      try simp only [World.size_alloc, World.size_setCell, World.size_drew, size_drewN] at s2
      obtain ⟨zb_2, zd_2, zx_2, rb_2, rt_2, bb_2⟩ : Blk w2 (w.heap.size) 26 [.slice A m c, .int .i64 ((bs.length : Nat) : Int)] ∧ Blk w2 (w.heap.size + 1) 62 [.int .i64 (p0 : Int), .int .i64 (p1 : Int), .int .u64 (q0 : Int), .int .u64 (q1 : Int)] ∧ Blk w2 (w.heap.size + 1 + 1) 62 [.int .i64 0, .int .i64 0, .int .u64 0, .int .u64 0] ∧ RowIn .u8 w2 (0) (w.heap.size) A m (pack bs) ∧ RowIn .u8 w2 (0) (w.heap.size) (some ⟨0, 0, none⟩) 64 dbTab ∧ Below w.heap.size w w2 := by
        refine ⟨?_, ?_, ?_, ?_, ?_, ?_⟩
        all_goals repeat' (first | (with_reducible assumption) | (with_reducible exact Below.refl _ _) | (with_reducible refine Blk.after ?_ b2) | (with_reducible refine RowIn.belowS ?_ b2) | (with_reducible refine Below.after ?_ b2 ?_) | (with_reducible refine Blk.drewN ?_ _) | (with_reducible refine RowIn.drewN ?_ _) | (with_reducible refine below_drewN ?_ _) | (with_reducible refine Blk.drew ?_) | (with_reducible refine RowIn.drew ?_) | (with_reducible refine Below.drew ?_) | (with_reducible refine Blk.new' ?_ ?_ <;> first | (with_reducible rfl) | (simp; done)) | (with_reducible refine Blk.alloc ?_ _) | (with_reducible refine RowIn.alloc ?_ _) | (with_reducible refine Below.alloc ?_ ?_ _) | (with_reducible apply Blk.set') | (with_reducible apply Blk.far') | (with_reducible refine RowIn.far' ?_ ?_ _) | (with_reducible refine Below.far' ?_ ?_ _) | rfl | omega | go_size)
      clear zb_1 zd_1 zx_1 rb_1 rt_1 bb_1 kb_1 fb_1 lb_1 kd_1 fd_1 ld_1 kx_1 fx_1 lx_1 b2
      have kb_2 := zb_2.cell; have fb_2 := zb_2.frozen; have lb_2 := zb_2.lt
      have kd_2 := zd_2.cell; have fd_2 := zd_2.frozen; have ld_2 := zd_2.lt
      have kx_2 := zx_2.cell; have fx_2 := zx_2.frozen; have lx_2 := zx_2.lt
      go_wp2_with fail
      have hg := bget_ret A m c bs ((i : Nat) : Int) (1 : Int) w2 rb_2.row hc hl (by omega) (by omega)
      rw [HG.out] at hg
      replace hg := Lib.hid hg
      refine (hg.out).mono ?_
      rintro e w3 ⟨rfl, b3⟩
      have s3 := b3.size
      try simp only [World.size_alloc, World.size_setCell, World.size_drew, size_drewN] at s3
      obtain ⟨zb_3, zd_3, zx_3, rb_3, rt_3, bb_3⟩ : Blk w3 (w.heap.size) 26 [.slice A m c, .int .i64 ((bs.length : Nat) : Int)] ∧ Blk w3 (w.heap.size + 1) 62 [.int .i64 (p0 : Int), .int .i64 (p1 : Int), .int .u64 (q0 : Int), .int .u64 (q1 : Int)] ∧ Blk w3 (w.heap.size + 1 + 1) 62 [.int .i64 0, .int .i64 0, .int .u64 0, .int .u64 0] ∧ RowIn .u8 w3 (0) (w.heap.size) A m (pack bs) ∧ RowIn .u8 w3 (0) (w.heap.size) (some ⟨0, 0, none⟩) 64 dbTab ∧ Below w.heap.size w w3 := by
        refine ⟨?_, ?_, ?_, ?_, ?_, ?_⟩
        all_goals repeat' (first | (with_reducible assumption) | (with_reducible exact Below.refl _ _) | (with_reducible refine Blk.after ?_ b3) | (with_reducible refine RowIn.belowS ?_ b3) | (with_reducible refine Below.after ?_ b3 ?_) | (with_reducible refine Blk.drewN ?_ _) | (with_reducible refine RowIn.drewN ?_ _) | (with_reducible refine below_drewN ?_ _) | (with_reducible refine Blk.drew ?_) | (with_reducible refine RowIn.drew ?_) | (with_reducible refine Below.drew ?_) | (with_reducible refine Blk.new' ?_ ?_ <;> first | (with_reducible rfl) | (simp; done)) | (with_reducible refine Blk.alloc ?_ _) | (with_reducible refine RowIn.alloc ?_ _) | (with_reducible refine Below.alloc ?_ ?_ _) | (with_reducible apply Blk.set') | (with_reducible apply Blk.far') | (with_reducible refine RowIn.far' ?_ ?_ _) | (with_reducible refine Below.far' ?_ ?_ _) | rfl | omega | go_size)
      clear zb_2 zd_2 zx_2 rb_2 rt_2 bb_2 kb_2 fb_2 lb_2 kd_2 fd_2 ld_2 kx_2 fx_2 lx_2 b3
      have kb_3 := zb_3.cell; have fb_3 := zb_3.frozen; have lb_3 := zb_3.lt
      have kd_3 := zd_3.cell; have fd_3 := zd_3.frozen; have ld_3 := zd_3.lt
      have kx_3 := zx_3.cell; have fx_3 := zx_3.frozen; have lx_3 := zx_3.lt
      clear hg
      go_wp2_with fail
      refine (rread_ok A m c bs ((j : Nat) : Int) p1 x n w3 rb_3.row hc hl (by omega) hd1 (by rw [Int.toNat_natCast]; exact HRR.out) rt_3.row).mono ?_
      rintro e w4 ⟨z, rfl, HZ, b4⟩
      have s4 := b4.size
      try simp only [World.size_alloc, World.size_setCell, World.size_drew, size_drewN] at s4
      obtain ⟨zb_4, zd_4, zx_4, rb_4, rt_4, bb_4⟩ : Blk w4 (w.heap.size) 26 [.slice A m c, .int .i64 ((bs.length : Nat) : Int)] ∧ Blk w4 (w.heap.size + 1) 62 [.int .i64 (p0 : Int), .int .i64 (p1 : Int), .int .u64 (q0 : Int), .int .u64 (q1 : Int)] ∧ Blk w4 (w.heap.size + 1 + 1) 62 [.int .i64 0, .int .i64 0, .int .u64 0, .int .u64 0] ∧ RowIn .u8 w4 (0) (w.heap.size) A m (pack bs) ∧ RowIn .u8 w4 (0) (w.heap.size) (some ⟨0, 0, none⟩) 64 dbTab ∧ Below w.heap.size w w4 := by
        refine ⟨?_, ?_, ?_, ?_, ?_, ?_⟩
        all_goals repeat' (first | (with_reducible assumption) | (with_reducible exact Below.refl _ _) | (with_reducible refine Blk.after ?_ b4) | (with_reducible refine RowIn.belowS ?_ b4) | (with_reducible refine Below.after ?_ b4 ?_) | (with_reducible refine Blk.drewN ?_ _) | (with_reducible refine RowIn.drewN ?_ _) | (with_reducible refine below_drewN ?_ _) | (with_reducible refine Blk.drew ?_) | (with_reducible refine RowIn.drew ?_) | (with_reducible refine Below.drew ?_) | (with_reducible refine Blk.new' ?_ ?_ <;> first | (with_reducible rfl) | (simp; done)) | (with_reducible refine Blk.alloc ?_ _) | (with_reducible refine RowIn.alloc ?_ _) | (with_reducible refine Below.alloc ?_ ?_ _) | (with_reducible apply Blk.set') | (with_reducible apply Blk.far') | (with_reducible refine RowIn.far' ?_ ?_ _) | (with_reducible refine Below.far' ?_ ?_ _) | rfl | omega | go_size)
      clear zb_3 zd_3 zx_3 rb_3 rt_3 bb_3 kb_3 fb_3 lb_3 kd_3 fd_3 ld_3 kx_3 fx_3 lx_3 b4
      have kb_4 := zb_4.cell; have fb_4 := zb_4.frozen; have lb_4 := zb_4.lt
      have kd_4 := zd_4.cell; have fd_4 := zd_4.frozen; have ld_4 := zd_4.lt
      have kx_4 := zx_4.cell; have fx_4 := zx_4.frozen; have lx_4 := zx_4.lt
      replace HR := HR.out z (by rw [HZ.out, Int.toNat_natCast])
      go_wp2_with fail
      refine (dlearn_any (w.heap.size + 1) p0 p1 q0 q1 y _ hd hy32 zd_4).mono ?_
      rintro e w9 ⟨u0, u1, v0, v1, rfl, HA, zd9, fr9⟩
      have zx9 := zx_4.frm fr9 (by omega)
      have bb9 : Below w.heap.size w w9 := bb_4.trans (fr9.below bb_4.size (fun k hk h => by omega))
      have s9 := fr9.size
      clear zb_4 zd_4 zx_4 rb_4 rt_4 bb_4 kb_4 fb_4 lb_4 kd_4 fd_4 ld_4 kx_4 fx_4 lx_4
      have kd9 := zd9.cell; have ld9 := zd9.lt; have kx9 := zx9.cell; have fx9 := zx9.frozen; have lx9 := zx9.lt
      go_wp2_with fail
      go_region
      all_goals
        go_wp2
        refine bodyPost_ret (v := .tuple #[.int .u32 (y : Int), .int .i64 (z : Int), .agg #[.int .i64 (u0 : Int), .int .i64 (u1 : Int), .int .u64 (v0 : Int), .int .u64 (v1 : Int)], .int .i64 0]) (by simp [results, Tryd.results57, go_sem, kx9, lx9]) rfl ?_
        rw [HR.out]
        refine ⟨u0, u1, v0, v1, rfl, HA, ?_⟩
        repeat' (first | (with_reducible assumption) | (with_reducible exact Below.refl _ _) | (with_reducible refine Blk.drewN ?_ _) | (with_reducible refine RowIn.drewN ?_ _) | (with_reducible refine below_drewN ?_ _) | (with_reducible refine Blk.drew ?_) | (with_reducible refine RowIn.drew ?_) | (with_reducible refine Below.drew ?_) | (with_reducible refine Blk.new' ?_ ?_ <;> first | (with_reducible rfl) | (simp; done)) | (with_reducible refine Blk.alloc ?_ _) | (with_reducible refine RowIn.alloc ?_ _) | (with_reducible refine Below.alloc ?_ ?_ _) | (with_reducible apply Blk.set') | (with_reducible apply Blk.far') | (with_reducible refine RowIn.far' ?_ ?_ _) | (with_reducible refine Below.far' ?_ ?_ _) | rfl | omega | go_size)
  · have hb1 := hb
    clear hb
    have hb : bitAt bs i = false := by simpa using hb1
    have HRD : Hid (readD (bs.drop i) ⟨p0, p1, q0, q1⟩ = if bs.length - j < p0 then .err 24 else .ok (bval ((bs.drop j).take p0)) (1 + p0)) := by rw [readD_zero hi hb, hj]; exact Lib.hid rfl
    have HG : Hid (getR bs (i : Nat) (1 : Int) = (0, 0)) := by
      unfold getR; rw [if_neg (by omega), if_neg (by omega)]
      refine Lib.hid ?_
      rw [Int.toNat_natCast]
      show (bval ((bs.drop i).take 1), (0 : Int)) = _
      rw [bval_one hi, hb]; rfl
    clear hj hb hb1
    by_cases h3 : bs.length - j < p0
    · have HR : Hid (drR bs (i : Nat) ⟨p0, p1, q0, q1⟩ = (0, 0, dualZero, 24)) := by rw [HR0.out, HRD.out, if_pos h3]; exact Lib.hid rfl
      have HG2 : Hid (getR bs (j : Nat) ((p0 : Nat) : Int) = (0, 24)) := by unfold getR; rw [if_neg (by omega), if_pos (by omega)]; exact Lib.hid rfl
      go_enter Tryd.func57, Tryd.ntmps57
      go_wp2_with fail
      refine (bcheck_ok A m c bs _ (by exact RowIn.row (lo := 0) (hi := w.heap.size) (by repeat' (first | (with_reducible assumption) | (with_reducible exact Below.refl _ _) | (with_reducible refine Blk.drewN ?_ _) | (with_reducible refine RowIn.drewN ?_ _) | (with_reducible refine below_drewN ?_ _) | (with_reducible refine Blk.drew ?_) | (with_reducible refine RowIn.drew ?_) | (with_reducible refine Below.drew ?_) | (with_reducible refine Blk.new' ?_ ?_ <;> first | (with_reducible rfl) | (simp; done)) | (with_reducible refine Blk.alloc ?_ _) | (with_reducible refine RowIn.alloc ?_ _) | (with_reducible refine Below.alloc ?_ ?_ _) | (with_reducible apply Blk.set') | (with_reducible apply Blk.far') | (with_reducible refine RowIn.far' ?_ ?_ _) | (with_reducible refine Below.far' ?_ ?_ _) | rfl | omega | go_size))) (by omega) hl).mono ?_
      rintro e w1 ⟨rfl, b1⟩
      have s1 := b1.size
      try simp only [World.size_alloc, World.size_setCell, World.size_drew, size_drewN] at s1
      obtain ⟨zb_1, zd_1, zx_1, rb_1, rt_1, bb_1⟩ : Blk w1 (w.heap.size) 26 [.slice A m c, .int .i64 ((bs.length : Nat) : Int)] ∧ Blk w1 (w.heap.size + 1) 62 [.int .i64 (p0 : Int), .int .i64 (p1 : Int), .int .u64 (q0 : Int), .int .u64 (q1 : Int)] ∧ Blk w1 (w.heap.size + 1 + 1) 62 [.int .i64 0, .int .i64 0, .int .u64 0, .int .u64 0] ∧ RowIn .u8 w1 (0) (w.heap.size) A m (pack bs) ∧ RowIn .u8 w1 (0) (w.heap.size) (some ⟨0, 0, none⟩) 64 dbTab ∧ Below w.heap.size w w1 := by
        refine ⟨?_, ?_, ?_, ?_, ?_, ?_⟩
        all_goals repeat' (first | (with_reducible assumption) | (with_reducible exact Below.refl _ _) | (with_reducible refine Blk.after ?_ b1) | (with_reducible refine RowIn.belowS ?_ b1) | (with_reducible refine Below.after ?_ b1 ?_) | (with_reducible refine Blk.drewN ?_ _) | (with_reducible refine RowIn.drewN ?_ _) | (with_reducible refine below_drewN ?_ _) | (with_reducible refine Blk.drew ?_) | (with_reducible refine RowIn.drew ?_) | (with_reducible refine Below.drew ?_) | (with_reducible refine Blk.new' ?_ ?_ <;> first | (with_reducible rfl) | (simp; done)) | (with_reducible refine Blk.alloc ?_ _) | (with_reducible refine RowIn.alloc ?_ _) | (with_reducible refine Below.alloc ?_ ?_ _) | (with_reducible apply Blk.set') | (with_reducible apply Blk.far') | (with_reducible refine RowIn.far' ?_ ?_ _) | (with_reducible refine Below.far' ?_ ?_ _) | rfl | omega | go_size)
      clear b1
      have kb_1 := zb_1.cell; have fb_1 := zb_1.frozen; have lb_1 := zb_1.lt
      have kd_1 := zd_1.cell; have fd_1 := zd_1.frozen; have ld_1 := zd_1.lt
      have kx_1 := zx_1.cell; have fx_1 := zx_1.frozen; have lx_1 := zx_1.lt
      go_wp2_with fail
      refine (dcheck_ok p0 p1 q0 q1 _ hd).mono ?_
      rintro e w2 ⟨rfl, b2⟩
      have s2 := b2.size
      try simp only [World.size_alloc, World.size_setCell, World.size_drew, size_drewN] at s2
      obtain ⟨zb_2, zd_2, zx_2, rb_2, rt_2, bb_2⟩ : Blk w2 (w.heap.size) 26 [.slice A m c, .int .i64 ((bs.length : Nat) : Int)] ∧ Blk w2 (w.heap.size + 1) 62 [.int .i64 (p0 : Int), .int .i64 (p1 : Int), .int .u64 (q0 : Int), .int .u64 (q1 : Int)] ∧ Blk w2 (w.heap.size + 1 + 1) 62 [.int .i64 0, .int .i64 0, .int .u64 0, .int .u64 0] ∧ RowIn .u8 w2 (0) (w.heap.size) A m (pack bs) ∧ RowIn .u8 w2 (0) (w.heap.size) (some ⟨0, 0, none⟩) 64 dbTab ∧ Below w.heap.size w w2 := by
        refine ⟨?_, ?_, ?_, ?_, ?_, ?_⟩
        all_goals repeat' (first | (with_reducible assumption) | (with_reducible exact Below.refl _ _) | (with_reducible refine Blk.after ?_ b2) | (with_reducible refine RowIn.belowS ?_ b2) | (with_reducible refine Below.after ?_ b2 ?_) | (with_reducible refine Blk.drewN ?_ _) | (with_reducible refine RowIn.drewN ?_ _) | (with_reducible refine below_drewN ?_ _) | (with_reducible refine Blk.drew ?_) | (with_reducible refine RowIn.drew ?_) | (with_reducible refine Below.drew ?_) | (with_reducible refine Blk.new' ?_ ?_ <;> first | (with_reducible rfl) | (simp; done)) | (with_reducible refine Blk.alloc ?_ _) | (with_reducible refine RowIn.alloc ?_ _) | (with_reducible refine Below.alloc ?_ ?_ _) | (with_reducible apply Blk.set') | (with_reducible apply Blk.far') | (with_reducible refine RowIn.far' ?_ ?_ _) | (with_reducible refine Below.far' ?_ ?_ _) | rfl | omega | go_size)
      clear zb_1 zd_1 zx_1 rb_1 rt_1 bb_1 kb_1 fb_1 lb_1 kd_1 fd_1 ld_1 kx_1 fx_1 lx_1 b2
      have kb_2 := zb_2.cell; have fb_2 := zb_2.frozen; have lb_2 := zb_2.lt
      have kd_2 := zd_2.cell; have fd_2 := zd_2.frozen; have ld_2 := zd_2.lt
      have kx_2 := zx_2.cell; have fx_2 := zx_2.frozen; have lx_2 := zx_2.lt
      go_wp2_with fail
      have hg := bget_ret A m c bs ((i : Nat) : Int) (1 : Int) w2 rb_2.row hc hl (by omega) (by omega)
      rw [HG.out] at hg
      replace hg := Lib.hid hg
      refine (hg.out).mono ?_
      rintro e w3 ⟨rfl, b3⟩
      have s3 := b3.size
      try simp only [World.size_alloc, World.size_setCell, World.size_drew, size_drewN] at s3
      obtain ⟨zb_3, zd_3, zx_3, rb_3, rt_3, bb_3⟩ : Blk w3 (w.heap.size) 26 [.slice A m c, .int .i64 ((bs.length : Nat) : Int)] ∧ Blk w3 (w.heap.size + 1) 62 [.int .i64 (p0 : Int), .int .i64 (p1 : Int), .int .u64 (q0 : Int), .int .u64 (q1 : Int)] ∧ Blk w3 (w.heap.size + 1 + 1) 62 [.int .i64 0, .int .i64 0, .int .u64 0, .int .u64 0] ∧ RowIn .u8 w3 (0) (w.heap.size) A m (pack bs) ∧ RowIn .u8 w3 (0) (w.heap.size) (some ⟨0, 0, none⟩) 64 dbTab ∧ Below w.heap.size w w3 := by
        refine ⟨?_, ?_, ?_, ?_, ?_, ?_⟩
        all_goals repeat' (first | (with_reducible assumption) | (with_reducible exact Below.refl _ _) | (with_reducible refine Blk.after ?_ b3) | (with_reducible refine RowIn.belowS ?_ b3) | (with_reducible refine Below.after ?_ b3 ?_) | (with_reducible refine Blk.drewN ?_ _) | (with_reducible refine RowIn.drewN ?_ _) | (with_reducible refine below_drewN ?_ _) | (with_reducible refine Blk.drew ?_) | (with_reducible refine RowIn.drew ?_) | (with_reducible refine Below.drew ?_) | (with_reducible refine Blk.new' ?_ ?_ <;> first | (with_reducible rfl) | (simp; done)) | (with_reducible refine Blk.alloc ?_ _) | (with_reducible refine RowIn.alloc ?_ _) | (with_reducible refine Below.alloc ?_ ?_ _) | (with_reducible apply Blk.set') | (with_reducible apply Blk.far') | (with_reducible refine RowIn.far' ?_ ?_ _) | (with_reducible refine Below.far' ?_ ?_ _) | rfl | omega | go_size)
      clear zb_2 zd_2 zx_2 rb_2 rt_2 bb_2 kb_2 fb_2 lb_2 kd_2 fd_2 ld_2 kx_2 fx_2 lx_2 b3
      have kb_3 := zb_3.cell; have fb_3 := zb_3.frozen; have lb_3 := zb_3.lt
      have kd_3 := zd_3.cell; have fd_3 := zd_3.frozen; have ld_3 := zd_3.lt
      have kx_3 := zx_3.cell; have fx_3 := zx_3.frozen; have lx_3 := zx_3.lt
      clear hg
      go_wp2_with fail
      have hg := bget_ret A m c bs ((j : Nat) : Int) ((p0 : Nat) : Int) w3 rb_3.row hc hl (by omega) (by omega)
      rw [HG2.out] at hg
      replace hg := Lib.hid hg
      refine (hg.out).mono ?_
      rintro e w4 ⟨rfl, b4⟩
      have s4 := b4.size
      try simp only [World.size_alloc, World.size_setCell, World.size_drew, size_drewN] at s4
      obtain ⟨zb_4, zd_4, zx_4, rb_4, rt_4, bb_4⟩ : Blk w4 (w.heap.size) 26 [.slice A m c, .int .i64 ((bs.length : Nat) : Int)] ∧ Blk w4 (w.heap.size + 1) 62 [.int .i64 (p0 : Int), .int .i64 (p1 : Int), .int .u64 (q0 : Int), .int .u64 (q1 : Int)] ∧ Blk w4 (w.heap.size + 1 + 1) 62 [.int .i64 0, .int .i64 0, .int .u64 0, .int .u64 0] ∧ RowIn .u8 w4 (0) (w.heap.size) A m (pack bs) ∧ RowIn .u8 w4 (0) (w.heap.size) (some ⟨0, 0, none⟩) 64 dbTab ∧ Below w.heap.size w w4 := by
        refine ⟨?_, ?_, ?_, ?_, ?_, ?_⟩
        all_goals repeat' (first | (with_reducible assumption) | (with_reducible exact Below.refl _ _) | (with_reducible refine Blk.after ?_ b4) | (with_reducible refine RowIn.belowS ?_ b4) | (with_reducible refine Below.after ?_ b4 ?_) | (with_reducible refine Blk.drewN ?_ _) | (with_reducible refine RowIn.drewN ?_ _) | (with_reducible refine below_drewN ?_ _) | (with_reducible refine Blk.drew ?_) | (with_reducible refine RowIn.drew ?_) | (with_reducible refine Below.drew ?_) | (with_reducible refine Blk.new' ?_ ?_ <;> first | (with_reducible rfl) | (simp; done)) | (with_reducible refine Blk.alloc ?_ _) | (with_reducible refine RowIn.alloc ?_ _) | (with_reducible refine Below.alloc ?_ ?_ _) | (with_reducible apply Blk.set') | (with_reducible apply Blk.far') | (with_reducible refine RowIn.far' ?_ ?_ _) | (with_reducible refine Below.far' ?_ ?_ _) | rfl | omega | go_size)
      clear zb_3 zd_3 zx_3 rb_3 rt_3 bb_3 kb_3 fb_3 lb_3 kd_3 fd_3 ld_3 kx_3 fx_3 lx_3 b4
      have kb_4 := zb_4.cell; have fb_4 := zb_4.frozen; have lb_4 := zb_4.lt
      have kd_4 := zd_4.cell; have fd_4 := zd_4.frozen; have ld_4 := zd_4.lt
      have kx_4 := zx_4.cell; have fx_4 := zx_4.frozen; have lx_4 := zx_4.lt
      clear hg
      go_wp2
      refine bodyPost_ret (v := .tuple #[.int .u32 0, .int .i64 0, .agg #[.int .i64 0, .int .i64 0, .int .u64 0, .int .u64 0], .int .i64 24]) (by simp [results, Tryd.results57, go_sem, kx_4, lx_4]) rfl ?_
      rw [HR.out]
      refine ⟨0, 0, 0, 0, rfl, Lib.hid rfl, ?_⟩
      repeat' (first | (with_reducible assumption) | (with_reducible exact Below.refl _ _) | (with_reducible refine Blk.drewN ?_ _) | (with_reducible refine RowIn.drewN ?_ _) | (with_reducible refine below_drewN ?_ _) | (with_reducible refine Blk.drew ?_) | (with_reducible refine RowIn.drew ?_) | (with_reducible refine Below.drew ?_) | (with_reducible refine Blk.new' ?_ ?_ <;> first | (with_reducible rfl) | (simp; done)) | (with_reducible refine Blk.alloc ?_ _) | (with_reducible refine RowIn.alloc ?_ _) | (with_reducible refine Below.alloc ?_ ?_ _) | (with_reducible apply Blk.set') | (with_reducible apply Blk.far') | (with_reducible refine RowIn.far' ?_ ?_ _) | (with_reducible refine Below.far' ?_ ?_ _) | rfl | omega | go_size)
    obtain ⟨y, HY⟩ : ∃ y, Hid (y = bval ((bs.drop j).take p0)) := ⟨_, Lib.hid rfl⟩
    rw [if_neg h3, ← HY.out] at HRD
    have hy : y < 2 ^ p0 := by rw [HY.out]; exact bval_take_lt _ _
    have hy32 : y < 4294967296 := Nat.lt_of_lt_of_le hy (Nat.le_trans (Nat.pow_le_pow_right (by omega) hd0) (by decide))
    have hyw : IntKind.u32.wrap (y : Int) = (y : Int) := IntWalk.u32_in _ (by omega)
    have HR : Hid (drR bs (i : Nat) ⟨p0, p1, q0, q1⟩ = ((y : Int), (j : Int) + (p0 : Int), learn ⟨p0, p1, q0, q1⟩ y, 0)) := by rw [HR0.out, HRD.out]; refine Lib.hid ?_; simp only [Prod.mk.injEq, true_and, and_true]; omega
    clear hy
    go_enter Tryd.func57, Tryd.ntmps57
    go_wp2_with fail
    refine (bcheck_ok A m c bs _ (by exact RowIn.row (lo := 0) (hi := w.heap.size) (by repeat' (first | (with_reducible assumption) | (with_reducible exact Below.refl _ _) | (with_reducible refine Blk.drewN ?_ _) | (with_reducible refine RowIn.drewN ?_ _) | (with_reducible refine below_drewN ?_ _) | (with_reducible refine Blk.drew ?_) | (with_reducible refine RowIn.drew ?_) | (with_reducible refine Below.drew ?_) | (with_reducible refine Blk.new' ?_ ?_ <;> first | (with_reducible rfl) | (simp; done)) | (with_reducible refine Blk.alloc ?_ _) | (with_reducible refine RowIn.alloc ?_ _) | (with_reducible refine Below.alloc ?_ ?_ _) | (with_reducible apply Blk.set') | (with_reducible apply Blk.far') | (with_reducible refine RowIn.far' ?_ ?_ _) | (with_reducible refine Below.far' ?_ ?_ _) | rfl | omega | go_size))) (by omega) hl).mono ?_
    rintro e w1 ⟨rfl, b1⟩
    have s1 := b1.size
    try simp only [World.size_alloc, World.size_setCell, World.size_drew, size_drewN] at s1
    obtain ⟨zb_1, zd_1, zx_1, rb_1, rt_1, bb_1⟩ : Blk w1 (w.heap.size) 26 [.slice A m c, .int .i64 ((bs.length : Nat) : Int)] ∧ Blk w1 (w.heap.size + 1) 62 [.int .i64 (p0 : Int), .int .i64 (p1 : Int), .int .u64 (q0 : Int), .int .u64 (q1 : Int)] ∧ Blk w1 (w.heap.size + 1 + 1) 62 [.int .i64 0, .int .i64 0, .int .u64 0, .int .u64 0] ∧ RowIn .u8 w1 (0) (w.heap.size) A m (pack bs) ∧ RowIn .u8 w1 (0) (w.heap.size) (some ⟨0, 0, none⟩) 64 dbTab ∧ Below w.heap.size w w1 := by
      refine ⟨?_, ?_, ?_, ?_, ?_, ?_⟩
      all_goals repeat' (first | (with_reducible assumption) | (with_reducible exact Below.refl _ _) | (with_reducible refine Blk.after ?_ b1) | (with_reducible refine RowIn.belowS ?_ b1) | (with_reducible refine Below.after ?_ b1 ?_) | (with_reducible refine Blk.drewN ?_ _) | (with_reducible refine RowIn.drewN ?_ _) | (with_reducible refine below_drewN ?_ _) | (with_reducible refine Blk.drew ?_) | (with_reducible refine RowIn.drew ?_) | (with_reducible refine Below.drew ?_) | (with_reducible refine Blk.new' ?_ ?_ <;> first | (with_reducible rfl) | (simp; done)) | (with_reducible refine Blk.alloc ?_ _) | (with_reducible refine RowIn.alloc ?_ _) | (with_reducible refine Below.alloc ?_ ?_ _) | (with_reducible apply Blk.set') | (with_reducible apply Blk.far') | (with_reducible refine RowIn.far' ?_ ?_ _) | (with_reducible refine Below.far' ?_ ?_ _) | rfl | omega | go_size)
    clear b1
    have kb_1 := zb_1.cell; have fb_1 := zb_1.frozen; have lb_1 := zb_1.lt
    have kd_1 := zd_1.cell; have fd_1 := zd_1.frozen; have ld_1 := zd_1.lt
    have kx_1 := zx_1.cell; have fx_1 := zx_1.frozen; have lx_1 := zx_1.lt
    go_wp2_with fail
    refine (dcheck_ok p0 p1 q0 q1 _ hd).mono ?_
    rintro e w2 ⟨rfl, b2⟩
    have s2 := b2.size
    try simp only [World.size_alloc, World.size_setCell, World.size_drew, size_drewN] at s2
    obtain ⟨zb_2, zd_2, zx_2, rb_2, rt_2, bb_2⟩ : Blk w2 (w.heap.size) 26 [.slice A m c, .int .i64 ((bs.length : Nat) : Int)] ∧ Blk w2 (w.heap.size + 1) 62 [.int .i64 (p0 : Int), .int .i64 (p1 : Int), .int .u64 (q0 : Int), .int .u64 (q1 : Int)] ∧ Blk w2 (w.heap.size + 1 + 1) 62 [.int .i64 0, .int .i64 0, .int .u64 0, .int .u64 0] ∧ RowIn .u8 w2 (0) (w.heap.size) A m (pack bs) ∧ RowIn .u8 w2 (0) (w.heap.size) (some ⟨0, 0, none⟩) 64 dbTab ∧ Below w.heap.size w w2 := by
      refine ⟨?_, ?_, ?_, ?_, ?_, ?_⟩
      all_goals repeat' (first | (with_reducible assumption) | (with_reducible exact Below.refl _ _) | (with_reducible refine Blk.after ?_ b2) | (with_reducible refine RowIn.belowS ?_ b2) | (with_reducible refine Below.after ?_ b2 ?_) | (with_reducible refine Blk.drewN ?_ _) | (with_reducible refine RowIn.drewN ?_ _) | (with_reducible refine below_drewN ?_ _) | (with_reducible refine Blk.drew ?_) | (with_reducible refine RowIn.drew ?_) | (with_reducible refine Below.drew ?_) | (with_reducible refine Blk.new' ?_ ?_ <;> first | (with_reducible rfl) | (simp; done)) | (with_reducible refine Blk.alloc ?_ _) | (with_reducible refine RowIn.alloc ?_ _) | (with_reducible refine Below.alloc ?_ ?_ _) | (with_reducible apply Blk.set') | (with_reducible apply Blk.far') | (with_reducible refine RowIn.far' ?_ ?_ _) | (with_reducible refine Below.far' ?_ ?_ _) | rfl | omega | go_size)
    clear zb_1 zd_1 zx_1 rb_1 rt_1 bb_1 kb_1 fb_1 lb_1 kd_1 fd_1 ld_1 kx_1 fx_1 lx_1 b2
    have kb_2 := zb_2.cell; have fb_2 := zb_2.frozen; have lb_2 := zb_2.lt
    have kd_2 := zd_2.cell; have fd_2 := zd_2.frozen; have ld_2 := zd_2.lt
    have kx_2 := zx_2.cell; have fx_2 := zx_2.frozen; have lx_2 := zx_2.lt
    go_wp2_with fail
    have hg := bget_ret A m c bs ((i : Nat) : Int) (1 : Int) w2 rb_2.row hc hl (by omega) (by omega)
    rw [HG.out] at hg
    replace hg := Lib.hid hg
    refine (hg.out).mono ?_
    rintro e w3 ⟨rfl, b3⟩
    have s3 := b3.size
    try simp only [World.size_alloc, World.size_setCell, World.size_drew, size_drewN] at s3
    obtain ⟨zb_3, zd_3, zx_3, rb_3, rt_3, bb_3⟩ : Blk w3 (w.heap.size) 26 [.slice A m c, .int .i64 ((bs.length : Nat) : Int)] ∧ Blk w3 (w.heap.size + 1) 62 [.int .i64 (p0 : Int), .int .i64 (p1 : Int), .int .u64 (q0 : Int), .int .u64 (q1 : Int)] ∧ Blk w3 (w.heap.size + 1 + 1) 62 [.int .i64 0, .int .i64 0, .int .u64 0, .int .u64 0] ∧ RowIn .u8 w3 (0) (w.heap.size) A m (pack bs) ∧ RowIn .u8 w3 (0) (w.heap.size) (some ⟨0, 0, none⟩) 64 dbTab ∧ Below w.heap.size w w3 := by
      refine ⟨?_, ?_, ?_, ?_, ?_, ?_⟩
      all_goals repeat' (first | (with_reducible assumption) | (with_reducible exact Below.refl _ _) | (with_reducible refine Blk.after ?_ b3) | (with_reducible refine RowIn.belowS ?_ b3) | (with_reducible refine Below.after ?_ b3 ?_) | (with_reducible refine Blk.drewN ?_ _) | (with_reducible refine RowIn.drewN ?_ _) | (with_reducible refine below_drewN ?_ _) | (with_reducible refine Blk.drew ?_) | (with_reducible refine RowIn.drew ?_) | (with_reducible refine Below.drew ?_) | (with_reducible refine Blk.new' ?_ ?_ <;> first | (with_reducible rfl) | (simp; done)) | (with_reducible refine Blk.alloc ?_ _) | (with_reducible refine RowIn.alloc ?_ _) | (with_reducible refine Below.alloc ?_ ?_ _) | (with_reducible apply Blk.set') | (with_reducible apply Blk.far') | (with_reducible refine RowIn.far' ?_ ?_ _) | (with_reducible refine Below.far' ?_ ?_ _) | rfl | omega | go_size)
    clear zb_2 zd_2 zx_2 rb_2 rt_2 bb_2 kb_2 fb_2 lb_2 kd_2 fd_2 ld_2 kx_2 fx_2 lx_2 b3
    have kb_3 := zb_3.cell; have fb_3 := zb_3.frozen; have lb_3 := zb_3.lt
    have kd_3 := zd_3.cell; have fd_3 := zd_3.frozen; have ld_3 := zd_3.lt
    have kx_3 := zx_3.cell; have fx_3 := zx_3.frozen; have lx_3 := zx_3.lt
    clear hg
    go_wp2_with fail
    refine (bget_ok A m c bs ((j : Nat) : Int) ((p0 : Nat) : Int) w3 rb_3.row hc hl (by omega) (by omega) (by omega)).mono ?_
    rintro e w4 ⟨y2, rfl, HY2, b4⟩
    have s4 := b4.size
    try simp only [World.size_alloc, World.size_setCell, World.size_drew, size_drewN] at s4
    obtain ⟨zb_4, zd_4, zx_4, rb_4, rt_4, bb_4⟩ : Blk w4 (w.heap.size) 26 [.slice A m c, .int .i64 ((bs.length : Nat) : Int)] ∧ Blk w4 (w.heap.size + 1) 62 [.int .i64 (p0 : Int), .int .i64 (p1 : Int), .int .u64 (q0 : Int), .int .u64 (q1 : Int)] ∧ Blk w4 (w.heap.size + 1 + 1) 62 [.int .i64 0, .int .i64 0, .int .u64 0, .int .u64 0] ∧ RowIn .u8 w4 (0) (w.heap.size) A m (pack bs) ∧ RowIn .u8 w4 (0) (w.heap.size) (some ⟨0, 0, none⟩) 64 dbTab ∧ Below w.heap.size w w4 := by
      refine ⟨?_, ?_, ?_, ?_, ?_, ?_⟩
      all_goals repeat' (first | (with_reducible assumption) | (with_reducible exact Below.refl _ _) | (with_reducible refine Blk.after ?_ b4) | (with_reducible refine RowIn.belowS ?_ b4) | (with_reducible refine Below.after ?_ b4 ?_) | (with_reducible refine Blk.drewN ?_ _) | (with_reducible refine RowIn.drewN ?_ _) | (with_reducible refine below_drewN ?_ _) | (with_reducible refine Blk.drew ?_) | (with_reducible refine RowIn.drew ?_) | (with_reducible refine Below.drew ?_) | (with_reducible refine Blk.new' ?_ ?_ <;> first | (with_reducible rfl) | (simp; done)) | (with_reducible refine Blk.alloc ?_ _) | (with_reducible refine RowIn.alloc ?_ _) | (with_reducible refine Below.alloc ?_ ?_ _) | (with_reducible apply Blk.set') | (with_reducible apply Blk.far') | (with_reducible refine RowIn.far' ?_ ?_ _) | (with_reducible refine Below.far' ?_ ?_ _) | rfl | omega | go_size)
    clear zb_3 zd_3 zx_3 rb_3 rt_3 bb_3 kb_3 fb_3 lb_3 kd_3 fd_3 ld_3 kx_3 fx_3 lx_3 b4
    have kb_4 := zb_4.cell; have fb_4 := zb_4.frozen; have lb_4 := zb_4.lt
    have kd_4 := zd_4.cell; have fd_4 := zd_4.frozen; have ld_4 := zd_4.lt
    have kx_4 := zx_4.cell; have fx_4 := zx_4.frozen; have lx_4 := zx_4.lt
    obtain rfl : y = y2 := by rw [HY.out, HY2.out, Int.toNat_natCast, Int.toNat_natCast]
    clear HY2
    go_wp2_with fail
    go_quiet (fail)
    generalize hwd : w4.drewN nq = w5
    have b5 : Below w4.heap.size w4 w5 := by rw [← hwd]; exact below_drewN (Below.refl _ _) _
    clear hwd
    have s5 := b5.size
    try simp only [World.size_alloc, World.size_setCell, World.size_drew, size_drewN] at s5
    obtain ⟨zd_5, zx_5, bb_5⟩ : Blk w5 (w.heap.size + 1) 62 [.int .i64 (p0 : Int), .int .i64 (p1 : Int), .int .u64 (q0 : Int), .int .u64 (q1 : Int)] ∧ Blk w5 (w.heap.size + 1 + 1) 62 [.int .i64 0, .int .i64 0, .int .u64 0, .int .u64 0] ∧ Below w.heap.size w w5 := by
      refine ⟨?_, ?_, ?_⟩
      all_goals repeat' (first | (with_reducible assumption) | (with_reducible exact Below.refl _ _) | (with_reducible refine Blk.after ?_ b5) | (with_reducible refine RowIn.belowS ?_ b5) | (with_reducible refine Below.after ?_ b5 ?_) | (with_reducible refine Blk.drewN ?_ _) | (with_reducible refine RowIn.drewN ?_ _) | (with_reducible refine below_drewN ?_ _) | (with_reducible refine Blk.drew ?_) | (with_reducible refine RowIn.drew ?_) | (with_reducible refine Below.drew ?_) | (with_reducible refine Blk.new' ?_ ?_ <;> first | (with_reducible rfl) | (simp; done)) | (with_reducible refine Blk.alloc ?_ _) | (with_reducible refine RowIn.alloc ?_ _) | (with_reducible refine Below.alloc ?_ ?_ _) | (with_reducible apply Blk.set') | (with_reducible apply Blk.far') | (with_reducible refine RowIn.far' ?_ ?_ _) | (with_reducible refine Below.far' ?_ ?_ _) | rfl | omega | go_size)
    clear zb_4 zd_4 zx_4 rb_4 rt_4 bb_4 kb_4 fb_4 lb_4 kd_4 fd_4 ld_4 kx_4 fx_4 lx_4 b5
    have kd_5 := zd_5.cell; have fd_5 := zd_5.frozen; have ld_5 := zd_5.lt
    have kx_5 := zx_5.cell; have fx_5 := zx_5.frozen; have lx_5 := zx_5.lt
    go_wp2_with fail
    refine (dlearn_any (w.heap.size + 1) p0 p1 q0 q1 y _ hd hy32 zd_5).mono ?_
    rintro e w9 ⟨u0, u1, v0, v1, rfl, HA, zd9, fr9⟩
    have zx9 := zx_5.frm fr9 (by omega)
    have bb9 : Below w.heap.size w w9 := bb_5.trans (fr9.below bb_5.size (fun k hk h => by omega))
    have s9 := fr9.size
    clear zd_5 zx_5 bb_5 kd_5 fd_5 ld_5 kx_5 fx_5 lx_5
    have kd9 := zd9.cell; have ld9 := zd9.lt; have kx9 := zx9.cell; have fx9 := zx9.frozen; have lx9 := zx9.lt
    go_wp2_with fail
    go_region
    all_goals
      go_wp2
      refine bodyPost_ret (v := .tuple #[.int .u32 (y : Int), .int .i64 ((j : Int) + (p0 : Int)), .agg #[.int .i64 (u0 : Int), .int .i64 (u1 : Int), .int .u64 (v0 : Int), .int .u64 (v1 : Int)], .int .i64 0]) (by simp [results, Tryd.results57, go_sem, kx9, lx9]) rfl ?_
      rw [HR.out]
      refine ⟨u0, u1, v0, v1, by first | rfl | go_num, HA, ?_⟩
      repeat' (first | (with_reducible assumption) | (with_reducible exact Below.refl _ _) | (with_reducible refine Blk.drewN ?_ _) | (with_reducible refine RowIn.drewN ?_ _) | (with_reducible refine below_drewN ?_ _) | (with_reducible refine Blk.drew ?_) | (with_reducible refine RowIn.drew ?_) | (with_reducible refine Below.drew ?_) | (with_reducible refine Blk.new' ?_ ?_ <;> first | (with_reducible rfl) | (simp; done)) | (with_reducible refine Blk.alloc ?_ _) | (with_reducible refine RowIn.alloc ?_ _) | (with_reducible refine Below.alloc ?_ ?_ _) | (with_reducible apply Blk.set') | (with_reducible apply Blk.far') | (with_reducible refine RowIn.far' ?_ ?_ _) | (with_reducible refine Below.far' ?_ ?_ _) | rfl | omega | go_size)


end Go.Proofs.YtpohaikbbfochaaDoor
