/- A digest in the midst is fed: take of package digest, whole. -/
import Derived.Test.YtgmdbhckccmhjaaDoorTake
set_option linter.unusedVariables false
namespace Go.Sh
open Go.Fw Go.Sha Go.RowKit Go.Proofs.Tryd

theorem sla_some {p : Addr} {lo m : Nat} (h : m ≠ lo) : sla (some p) lo m 1 = some (p.add lo) := by simp [sla, h]

/-- the rest of a slice -/
theorem src_sub {w : World} {s : Sl} {vs : List Value} (h : Src w s vs) {lo : Nat} (h1 : lo ≤ vs.length) : Src w ⟨sla s.a lo s.cap 1, s.len - lo, s.cap - lo⟩ (vs.drop lo) := by
  have hl := h.len
  have hc := h.cap
  refine ⟨by simp; omega, by show s.len - lo ≤ s.cap - lo; omega, ?_, fun v hv => h.one v (List.mem_of_mem_drop hv)⟩
  rcases h.rd with ⟨a1, a2, a3⟩ | ⟨p, a1, a2⟩
  · left
    refine ⟨by simp [sla, a1], by show s.cap - lo = 0; omega, by rw [a3]; simp⟩
  · right
    by_cases hm : s.cap = lo
    · refine ⟨p, by simp [sla, a1, hm], fun i v hv => ?_⟩
      have : vs.drop lo = [] := List.drop_eq_nil_of_le (by omega)
      rw [this] at hv; simp at hv
    · refine ⟨p.add lo, by rw [a1, sla_some hm], fun i v hv => ?_⟩
      rw [add_add]
      rw [List.getElem?_drop] at hv
      exact a2 _ _ hv

theorem sla_blk {a : Option Addr} {lo m : Nat} {q : Addr} (h : sla a lo m 1 = some q) : ∃ p, a = some p ∧ q.block = p.block := by
  unfold sla at h
  split at h
  · exact ⟨q, h, rfl⟩
  · cases ha : a with
    | none => rw [ha] at h; simp at h
    | some p => rw [ha] at h; simp at h; exact ⟨p, rfl, by rw [← h]; unfold Addr.add; split <;> rfl⟩

/-- the last part of take: whole blocks, what is left -/
theorem take_rest {K : Nat} (hK : 18446744073709551616 ≤ K) {w : World} {e : TypeId} {g o : Nat} {cs0 : List Value} {h : Int} (hk : known h = true) {cnt : Nat} {H half C H0 xs : List Int} (s : StAt w e g o cs0 h cnt H half) (f : Fed h C H0 xs H half) (hz : xs.length % blk h = 0)
    (hC : C.length = 80) (hg3 : g ≠ 2) (hT : Rd w ⟨2, 0, none⟩ (ints .u64 C)) {b : Sl} {ys : List Int} (hy : ∀ x ∈ ys, InK .u8 x) (hlim : ys.length ≤ 140737488355328) (hx : Src w b (ints .u8 ys)) (hbg : ∀ p, b.a = some p → p.block ≠ g) (hbv : ∀ p, b.a = some p → p.block < w.heap.size)
    (rest : Option (Unit × World)) :
    ∃ w' H' half', ((ldI .i64 ⟨g, o + 1, none⟩ w.drew).bind fun v_29 => if v_29 ≠ 0 then ((ldI .i64 ⟨g, o + 1, none⟩ w.drew).bind fun v_30 =>
        if (0 : Int) ≤ (IntKind.i64.wrap ((IntKind.i64.wrap (Int.tdiv ((b.len : Nat) : Int) v_29)) * v_30)) ∧ (IntKind.i64.wrap ((IntKind.i64.wrap (Int.tdiv ((b.len : Nat) : Int) v_29)) * v_30)) ≤ ((b.cap : Nat) : Int) then ((ldV ⟨g, o + 3, none⟩ w.drew.drew).bind fun v_33 =>
        dyn (tab (digest_state_take_E K)) v_33 [(.pointer (some ⟨g, o + 6, none⟩)), (.slice (sla b.a 0 b.cap 1) ((Int.toNat (IntKind.i64.wrap ((IntKind.i64.wrap (Int.tdiv ((b.len : Nat) : Int) v_29)) * v_30))) - 0) (b.cap - 0))] w.drew.drew fun v_34 w_35 =>
        if (0 : Int) ≤ (IntKind.i64.wrap ((IntKind.i64.wrap (Int.tdiv ((b.len : Nat) : Int) v_29)) * v_30)) ∧ (IntKind.i64.wrap ((IntKind.i64.wrap (Int.tdiv ((b.len : Nat) : Int) v_29)) * v_30)) ≤ ((b.len : Nat) : Int) then
          (bnd (Fw.cpy prog 25 25 (.slice (sla (some ⟨g, o + 14, none⟩) 0 128 1) (128 - 0) (128 - 0)) (.slice (sla b.a (Int.toNat (IntKind.i64.wrap ((IntKind.i64.wrap (Int.tdiv ((b.len : Nat) : Int) v_29)) * v_30))) b.cap 1) (b.len - (Int.toNat (IntKind.i64.wrap ((IntKind.i64.wrap (Int.tdiv ((b.len : Nat) : Int) v_29)) * v_30)))) (b.cap - (Int.toNat (IntKind.i64.wrap ((IntKind.i64.wrap (Int.tdiv ((b.len : Nat) : Int) v_29)) * v_30))))) w_35.drew) fun s_37 w_38 => some ((), w_38)) else none) else none) else none) = some ((), w') ∧
      StAt w' e g o cs0 h cnt H' half' ∧ Fed h C H0 (xs ++ ys) H' half' ∧ Upd (· = g) w w' := by
  have hbp := blk_pos h
  have hble := blk_le h
  have hlen : b.len = ys.length := by simpa using hx.len
  have hcap := hx.cap
  obtain ⟨l1, l5, l3⟩ := s.drew.ld hk
  obtain ⟨m1, m5, m3⟩ := s.drew.drew.ld hk
  have hn : IntKind.i64.wrap ((IntKind.i64.wrap (Int.tdiv ((ys.length : Nat) : Int) ((blk h : Nat) : Int))) * ((blk h : Nat) : Int)) = ((ys.length / blk h * blk h : Nat) : Int) := by
    have hle : ys.length / blk h * blk h ≤ ys.length := Nat.div_mul_le_self _ _
    have hle2 : ys.length / blk h ≤ ys.length := Nat.div_le_self _ _
    rw [tdiv_nat, wn64 (by omega)]
    have : ((ys.length / blk h : Nat) : Int) * ((blk h : Nat) : Int) = ((ys.length / blk h * blk h : Nat) : Int) := by simp
    rw [this, wn64 (by omega)]
  have hle : ys.length / blk h * blk h ≤ ys.length := Nat.div_mul_le_self _ _
  have hne : ((blk h : Nat) : Int) ≠ 0 := by omega
  have hr := (hx.rds.drew.drew).sub (lo := 0) (hi := ys.length / blk h * blk h) (Nat.zero_le _) hle
  rw [List.drop_zero] at hr
  have hdl : (ys.take (ys.length / blk h * blk h)).length / blk h = ys.length / blk h := by
    rw [List.length_take, Nat.min_eq_left hle]; exact Nat.mul_div_cancel _ hbp
  obtain ⟨w1, c1, s1, u1⟩ := s.drew.drew.blocks hK hC hg3 (hT.upd (S := none_) (Upd.refl _ _).drew.drew fun _ => id) (b := ⟨sla b.a 0 b.cap 1, ys.length / blk h * blk h - 0, b.cap - 0⟩) (bs := ys.take (ys.length / blk h * blk h)) (inD fun x hx => hy x (List.mem_of_mem_take hx)) (by simp; omega)
    (fun p hp => by rw [show (⟨sla b.a 0 b.cap 1, ys.length / blk h * blk h - 0, b.cap - 0⟩ : Sl).a = b.a by simp] at hp; exact hbv p hp) (.inl fun p hp => by rw [show (⟨sla b.a 0 b.cap 1, ys.length / blk h * blk h - 0, b.cap - 0⟩ : Sl).a = b.a by simp] at hp; exact hbg p hp) hr
  rw [hdl] at s1
  have hx1 : Src w1.drew b (ints .u8 ys) := ((hx.upd0 ((Upd.refl none_ w).drew.drew)).upd u1 fun p hp e => hbg p hp e).upd0 (Upd.refl none_ w1).drew
  have hsub := src_sub hx1 (lo := ys.length / blk h * blk h) (by rw [ints_length]; exact hle)
  have hdr : (ints .u8 ys).drop (ys.length / blk h * blk h) = ints .u8 (ys.drop (ys.length / blk h * blk h)) := by simp [ints, List.map_drop]
  rw [hdr] at hsub
  have hym := Nat.mod_lt ys.length hbp
  have hya := Nat.div_add_mod ys.length (blk h)
  have hyc : blk h * (ys.length / blk h) = ys.length / blk h * blk h := Nat.mul_comm _ _
  obtain ⟨w2, c2, s2, u2⟩ := s1.drew.cpy hsub (fun x hx => hy x (List.mem_of_mem_drop hx)) (at_ := 0) (dLen := 128) (dCap := 128) (by decide)
  have hmin : min (b.len - ys.length / blk h * blk h) 128 = (ys.drop (ys.length / blk h * blk h)).length := by rw [List.length_drop, hlen]; omega
  have hfw := f.whole (ys := ys) hz
  have htk : (ys.drop (ys.length / blk h * blk h)).take (min (b.len - ys.length / blk h * blk h) 128) = ys.drop (ys.length / blk h * blk h) := by rw [hmin, List.take_length]
  have s2 : StAt w2 e g o cs0 h cnt (compsH h C (ys.length / blk h) H (ys.take (ys.length / blk h * blk h))) (over half 0 (ys.drop (ys.length / blk h * blk h))) := by
    have s2' := s2
    rw [show (⟨sla b.a (ys.length / blk h * blk h) b.cap 1, b.len - ys.length / blk h * blk h, b.cap - ys.length / blk h * blk h⟩ : Sl).len = b.len - ys.length / blk h * blk h from rfl, htk] at s2'
    exact s2'
  refine ⟨w2, _, _, ?_, s2, hfw, ((Upd.refl (· = g) w).drew.drew.trans' u1 fun _ _ e => e).drew.trans' u2 fun _ _ e => e⟩
  have k1 : (0 : Int) ≤ ((ys.length / blk h * blk h : Nat) : Int) ∧ ((ys.length / blk h * blk h : Nat) : Int) ≤ ((b.cap : Nat) : Int) := by omega
  have k2 : (0 : Int) ≤ ((ys.length / blk h * blk h : Nat) : Int) ∧ ((ys.length / blk h * blk h : Nat) : Int) ≤ ((ys.length : Nat) : Int) := by omega
  rw [l1, Option.bind_some, if_pos hne, Option.bind_some]
  simp only [hlen, hn]
  rw [if_pos k1, m3, Option.bind_some, Int.toNat_natCast]
  have hd := dyn_blocks K h (some ⟨g, o + 6, none⟩) ⟨sla b.a 0 b.cap 1, ys.length / blk h * blk h - 0, b.cap - 0⟩ w.drew.drew (β := Unit × World)
  have hd' := fun k => hd k
  rw [hd', c1, bnd_ok, if_pos k2]
  have c2' : Fw.cpy prog 25 25 (.slice (sla (some ⟨g, o + 14, none⟩) 0 128 1) (128 - 0) (128 - 0)) (.slice (sla b.a (ys.length / blk h * blk h) b.cap 1) (ys.length - ys.length / blk h * blk h) (b.cap - ys.length / blk h * blk h)) w1.drew = some (((min (ys.length - ys.length / blk h * blk h) 128 : Nat) : Int), w2) := by
    have := c2
    simp only [Nat.add_zero, hlen] at this
    rw [sla_zero]
    exact this
  rw [c2', bnd_ok]

/-- take: a part is fed. -/
theorem take_ok {K : Nat} (hK : 18446744073709551616 ≤ K) {w : World} {e : TypeId} {g o : Nat} {cs0 : List Value} {h : Int} (hk : known h = true) {H half C H0 xs : List Int} (s : StAt w e g o cs0 h xs.length H half) (f : Fed h C H0 xs H half)
    (hC : C.length = 80) (hg3 : g ≠ 2) (hT : Rd w ⟨2, 0, none⟩ (ints .u64 C)) {b : Sl} {ys : List Int} (hy : ∀ x ∈ ys, InK .u8 x) (hlim : xs.length + ys.length ≤ 140737488355328) (hx : Src w b (ints .u8 ys)) (hbg : ∀ p, b.a = some p → p.block ≠ g) (hbv : ∀ p, b.a = some p → p.block < w.heap.size) :
    ∃ w' H' half', digest_state_take K (some ⟨g, o, none⟩) b w = some ((), w') ∧ StAt w' e g o cs0 h (xs ++ ys).length H' half' ∧ Fed h C H0 (xs ++ ys) H' half' ∧ Upd (· = g) w w' := by
  have hbp := blk_pos h
  have hble := blk_le h
  have hlen : b.len = ys.length := by simpa using hx.len
  have hcap := hx.cap
  obtain ⟨l1, l5, l3⟩ := s.drew.ld hk
  have eb : IntKind.u64.wrap ((blk h : Nat) : Int) = ((blk h : Nat) : Int) := by rw [IntKind.wrap_u64]; omega
  have hne : ((blk h : Nat) : Int) ≠ 0 := by omega
  have el : IntKind.u64.wrap ((ys.length : Nat) : Int) = ((ys.length : Nat) : Int) := by rw [IntKind.wrap_u64]; omega
  have ec : IntKind.u64.wrap (((xs.length : Nat) : Int) + ((ys.length : Nat) : Int)) = (((xs ++ ys).length : Nat) : Int) := by rw [IntKind.wrap_u64, List.length_append]; omega
  have hat := Nat.mod_lt xs.length hbp
  have ea : IntKind.i64.wrap (Int.tmod ((xs.length : Nat) : Int) ((blk h : Nat) : Int)) = ((xs.length % blk h : Nat) : Int) := by rw [tmod_nat, wn64 (by omega)]
  obtain ⟨w1, c1, s1, u1⟩ := s.drew.count (xs ++ ys).length
  have u1' : Upd (· = g) w w1 := u1.predrew
  have hx1 := (hx.upd0 (Upd.refl none_ w).drew).upd u1 fun p hp e => hbg p hp e
  have hbv1 : ∀ p, b.a = some p → p.block < w1.heap.size := fun p hp => by have := hbv p hp; have := u1'.size; omega
  have hT1 : Rd w1 ⟨2, 0, none⟩ (ints .u64 C) := hT.upd u1' fun _ e => hg3 e.symm
  unfold digest_state_take
  simp only [Option.bind_some, add_lit, Nat.add_zero]
  rw [l5, Option.bind_some, l1, Option.bind_some, eb, if_pos hne, Option.bind_some, hlen, el, ec, c1, Option.bind_some, ea]
  by_cases hz : xs.length % blk h = 0
  · -- nothing was held
    have hd : decide (((xs.length % blk h : Nat) : Int) > 0) = false := by rw [hz]; rfl
    have hs0 : digest_state_take_s0 K (some ⟨g, o, none⟩) b ((xs.length % blk h : Nat) : Int) false w1 = some (.norm (b, ()), w1) := by
      unfold digest_state_take_s0; rw [if_neg (by decide)]
    rw [hd, hs0, bnd_ok]
    obtain ⟨w2, H2, half2, r1, r2, r3, r4⟩ := take_rest hK hk s1 f hz hC hg3 hT1 hy (by omega) hx1 hbg hbv1 none
    exact ⟨w2, H2, half2, r1, r2, r3, u1'.trans' r4 fun _ _ e => e⟩
  · have hd : decide (((xs.length % blk h : Nat) : Int) > 0) = true := by simp; omega
    rw [hd]
    obtain ⟨k1, k5, k3⟩ := s1.drew.ld hk
    have hx1d := hx1.upd0 (Upd.refl none_ w1).drew
    obtain ⟨w2, c2, s2, u2⟩ := s1.drew.cpy hx1d hy (at_ := xs.length % blk h) (dLen := blk h - xs.length % blk h) (dCap := 128 - xs.length % blk h) (by omega)
    have a1 : (0 : Int) ≤ ((blk h : Nat) : Int) ∧ ((blk h : Nat) : Int) ≤ ((128 : Nat) : Int) := by omega
    have a2 : (0 : Int) ≤ ((xs.length % blk h : Nat) : Int) ∧ ((xs.length % blk h : Nat) : Int) ≤ ((blk h : Nat) : Int) := by omega
    have a3 : (0 : Int) ≤ ((min b.len (blk h - xs.length % blk h) : Nat) : Int) ∧ ((min b.len (blk h - xs.length % blk h) : Nat) : Int) ≤ ((b.len : Nat) : Int) := by omega
    have hsl : sla (some ⟨g, o + 14, none⟩) (xs.length % blk h) 128 1 = some ⟨g, o + 14 + xs.length % blk h, none⟩ := by rw [sla_some (by omega), add_lit]
    obtain ⟨m1, m5, m3⟩ := s2.ld hk
    have ew : IntKind.i64.wrap (((xs.length % blk h : Nat) : Int) + ((min b.len (blk h - xs.length % blk h) : Nat) : Int)) = ((xs.length % blk h + min b.len (blk h - xs.length % blk h) : Nat) : Int) := by rw [w64 (by omega) (by omega)]; rfl
    by_cases hlt : xs.length % blk h + ys.length < blk h
    · -- it stays less than a block
      have hmin : min b.len (blk h - xs.length % blk h) = ys.length := by rw [hlen]; omega
      rw [hmin, List.take_length] at s2
      have hlt' : decide (((xs.length % blk h + min b.len (blk h - xs.length % blk h) : Nat) : Int) < ((blk h : Nat) : Int)) = true := by rw [hmin]; simp; omega
      have hs0 : digest_state_take_s0 K (some ⟨g, o, none⟩) b ((xs.length % blk h : Nat) : Int) true w1 = some (.ret (), w2) := by
        unfold digest_state_take_s0
        rw [if_pos rfl]
        simp only [Option.bind_some, add_lit, Nat.add_zero]
        rw [k1, Option.bind_some, if_pos a1]
        simp only [Int.toNat_natCast]
        rw [if_pos a2, hsl, c2, bnd_ok, if_pos a3, m1, Option.bind_some, ew, hlt', if_pos rfl]
      rw [hs0, bnd_ok]
      exact ⟨w2, _, _, rfl, s2, f.less hlt, (u1'.drew.trans' u2 fun _ _ e => e)⟩
    · -- a block is filled
      have hmin : min b.len (blk h - xs.length % blk h) = blk h - xs.length % blk h := by rw [hlen]; omega
      have hlt' : decide (((xs.length % blk h + min b.len (blk h - xs.length % blk h) : Nat) : Int) < ((blk h : Nat) : Int)) = false := by rw [hmin]; simp; omega
      rw [hmin] at s2 c2 a3 ew
      have hyl : (ys.take (blk h - xs.length % blk h)).length = blk h - xs.length % blk h := by simp; omega
      have hfill := f.fill (ys := ys.take (blk h - xs.length % blk h)) (by rw [hyl]; omega)
      have hT2 : Rd w2.drew ⟨2, 0, none⟩ (ints .u64 C) := (hT1.upd ((Upd.refl (· = g) w1).drew.trans' u2 fun _ _ e => e) fun _ e => hg3 e.symm).upd (S := none_) (Upd.refl _ _).drew fun _ => id
      have hhalf := s2.drew.half_rd (n := blk h) hble
      have hol := s2.len
      obtain ⟨n1, n5, n3⟩ := s2.drew.ld hk
      obtain ⟨w3, c3, s3, u3⟩ := s2.drew.blocks hK hC hg3 hT2 (b := ⟨some ⟨g, o + 14, none⟩, blk h, 128⟩) (bs := (over half (xs.length % blk h) (ys.take (blk h - xs.length % blk h))).take (blk h)) (inD fun x hx => s2.inn x (List.mem_of_mem_take hx)) (by simp; omega)
        (fun p hp => by have e1 : p = ⟨g, o + 14, none⟩ := by simpa using hp.symm
                        rw [e1]; exact s2.drew.bk.lt) (.inr (by rw [List.length_take]; omega)) hhalf
      have hone : ((over half (xs.length % blk h) (ys.take (blk h - xs.length % blk h))).take (blk h)).length / blk h = 1 := by
        rw [List.length_take, hol, Nat.min_eq_left hble]; exact Nat.div_self hbp
      rw [hone] at s3
      have hs0 : digest_state_take_s0 K (some ⟨g, o, none⟩) b ((xs.length % blk h : Nat) : Int) true w1 =
          some (.norm (⟨sla b.a (blk h - xs.length % blk h) b.cap 1, b.len - (blk h - xs.length % blk h), b.cap - (blk h - xs.length % blk h)⟩, ()), w3) := by
        unfold digest_state_take_s0
        rw [if_pos rfl]
        simp only [Option.bind_some, add_lit, Nat.add_zero]
        rw [k1, Option.bind_some, if_pos a1]
        simp only [Int.toNat_natCast]
        rw [if_pos a2, hsl, c2, bnd_ok, if_pos a3, m1, Option.bind_some, ew]
        rw [hmin] at hlt'
        rw [hlt', if_neg (by decide), n3, Option.bind_some, n1, Option.bind_some, if_pos a1]
        have hd := dyn_blocks K h (some ⟨g, o + 6, none⟩) ⟨some ⟨g, o + 14, none⟩, blk h, 128⟩ w2.drew (β := Out (Sl × Unit) Unit × World)
        simp only [sla_zero, Int.toNat_natCast, Nat.sub_zero]
        rw [hd, c3, bnd_ok]
      have hmod : (xs ++ ys.take (blk h - xs.length % blk h)).length % blk h = 0 := by
        rw [List.length_append, hyl]
        have h1 := Nat.div_add_mod xs.length (blk h)
        have h2 : xs.length + (blk h - xs.length % blk h) = (xs.length / blk h + 1) * blk h := by rw [Nat.succ_mul, Nat.mul_comm]; omega
        rw [h2]; exact Nat.mul_mod_left _ _
      have u13 : Upd (· = g) w1 w3 := ((Upd.refl (· = g) w1).drew.trans' u2 fun _ _ e => e).drew.trans' u3 fun _ _ e => e
      have hx3 := src_sub (hx1.upd u13 fun p hp e => hbg p hp e) (lo := blk h - xs.length % blk h) (by rw [ints_length]; omega)
      have hdr : (ints .u8 ys).drop (blk h - xs.length % blk h) = ints .u8 (ys.drop (blk h - xs.length % blk h)) := by simp [ints, List.map_drop]
      rw [hdr] at hx3
      obtain ⟨w4, H4, half4, r1, r2, r3, r4⟩ := take_rest hK hk s3 hfill hmod hC hg3 (hT1.upd u13 fun _ e => hg3 e.symm) (fun x hx => hy x (List.mem_of_mem_drop hx)) (by simp; omega) hx3
        (fun q hq => by obtain ⟨p, hp, e1⟩ := sla_blk hq; rw [e1]; exact hbg p hp) (fun q hq => by obtain ⟨p, hp, e1⟩ := sla_blk hq; rw [e1]; have := hbv1 p hp; have := u13.size; omega) none
      rw [List.append_assoc, List.take_append_drop] at r3
      rw [hs0, bnd_ok]
      exact ⟨w4, H4, half4, r1, r2, r3, (u1'.trans' u13 fun _ _ e => e).trans' r4 fun _ _ e => e⟩

end Go.Sh
