/- Texts of this claim, put together: Stretch, Stretches, StrLaw, Prefixes, Cuts -/
import Derived.Test.YtgmdbhckccmhjaaDoorAllLawmahodd
/- Stretch of package digest. -/
set_option linter.unusedVariables false
namespace Go.Sh
open Go.Fw Go.Sha Go.RowKit Go.Proofs.Tryd

/-- two lists of bytes, byte by byte -/
def xorL (a b : List Int) : List Int := List.zipWith (bits .xor .u8) a b
theorem xorL_len {a b : List Int} (h : a.length = b.length) : (xorL a b).length = a.length := by unfold xorL; rw [List.length_zipWith]; omega
theorem xorL_in {a b : List Int} (ha : ∀ x ∈ a, InK .u8 x) (hb : ∀ x ∈ b, InK .u8 x) : ∀ x ∈ xorL a b, InK .u8 x := by
  intro x hx
  unfold xorL at hx
  obtain ⟨i, hi, rfl⟩ := List.mem_iff_getElem.1 hx
  rw [List.getElem_zipWith]
  exact InK.xor rfl (ha _ (List.getElem_mem _)) (hb _ (List.getElem_mem _))

def xp (a b : List Int) (i : Nat) : List Int := xorL (a.take i) (b.take i) ++ a.drop i
theorem xp_zero (a b : List Int) : xp a b 0 = a := by unfold xp xorL; simp
theorem xp_all {a b : List Int} (h : a.length = b.length) : xp a b a.length = xorL a b := by
  unfold xp; rw [List.take_length, h, List.take_length, ← h, List.drop_length, List.append_nil]
theorem xp_len {a b : List Int} {i : Nat} (h : a.length = b.length) (hi : i ≤ a.length) : (xp a b i).length = a.length := by
  unfold xp; rw [List.length_append, xorL_len (by rw [List.length_take, List.length_take]; omega), List.length_take, List.length_drop]; omega
theorem xp_at {a b : List Int} {i : Nat} (h : a.length = b.length) (hi : i < a.length) : (xp a b i)[i]? = some (a.getD i 0) := by
  unfold xp
  have hl : (xorL (a.take i) (b.take i)).length = i := by rw [xorL_len (by rw [List.length_take, List.length_take]; omega), List.length_take]; omega
  rw [List.getElem?_append_right (by omega), hl, Nat.sub_self, List.getElem?_drop, Nat.add_zero, List.getD_eq_getElem?_getD, List.getElem?_eq_getElem hi]; rfl
theorem xp_set {a b : List Int} {i : Nat} (h : a.length = b.length) (hi : i < a.length) : (xp a b i).set i (bits .xor .u8 (a.getD i 0) (b.getD i 0)) = xp a b (i + 1) := by
  unfold xp
  have hl : (xorL (a.take i) (b.take i)).length = i := by rw [xorL_len (by rw [List.length_take, List.length_take]; omega), List.length_take]; omega
  rw [List.set_append_right _ _ (by omega), hl, Nat.sub_self, drop_getD hi 0, List.set_cons_zero, take_succ_getD hi 0, take_succ_getD (show i < b.length by omega) 0]
  unfold xorL
  rw [List.zipWith_append (by rw [List.length_take, List.length_take]; omega), List.append_assoc]; rfl

theorem own_at {w : World} {s : Sl} {xs : List Int} (h : Own 5 w s (ints .u8 xs)) {i : Nat} {x : Int} (hi : xs[i]? = some x) : ∃ p, s.a = some p ∧ ldI .u8 (p.add i) w = some x := by
  have hl := (List.getElem?_eq_some_iff.1 hi).1
  obtain ⟨p, hp, hld⟩ := src_ld (h.src ints_one) hl
  refine ⟨p, hp, ?_⟩
  rw [hld, List.getD_eq_getElem?_getD, hi]; rfl

theorem Stretch_l6 {K : Nat} {p2 : Sl} {p3 p4 : Int} {p13 : Addr} {p15 p17 : Sl} {p16 p81 p82 : Int} {u sum : Sl} {us sm : List Int} (hl : sm.length = us.length) (hl2 : us.length ≤ 64) (hne : ∀ q, u.a = some q → us ≠ [] → sum.blk ≠ some q.block) :
    ∀ (d i k : Nat) (w : World), i + d = us.length → d < k → Src w u (ints .u8 us) → Own 5 w sum (ints .u8 (xp sm us i)) →
      ∃ w', digest_Stretch_l6 K k p2 p3 p4 p13 p15 p16 p17 sum p81 p82 u ((u.len : Nat) : Int) (i : Int) w = some ((), w') ∧ Own 5 w' sum (ints .u8 (xorL sm us)) ∧ Upd (fun k => sum.blk = some k) w w' := by
  intro d
  induction d with
  | zero =>
    intro i k w hi hkk hu ho
    obtain ⟨k, rfl⟩ : ∃ q, k = q + 1 := ⟨k - 1, by omega⟩
    have hul : u.len = us.length := by rw [hu.len, ints_length]
    have hd : decide ((i : Int) < ((u.len : Nat) : Int)) = false := by rw [hul]; simp; omega
    have e : xp sm us i = xorL sm us := by rw [show i = sm.length by omega, xp_all hl]
    refine ⟨w, ?_, e ▸ ho, Upd.refl _ _⟩
    have eu : digest_Stretch_l6 K (k + 1) = digest_Stretch_l6_b K (digest_Stretch_l6 K k) := rfl
    rw [eu]
    unfold digest_Stretch_l6_b
    rw [hd, if_neg (by decide)]
  | succ d ih =>
    intro i k w hi hkk hu ho
    obtain ⟨k, rfl⟩ : ∃ q, k = q + 1 := ⟨k - 1, by omega⟩
    have hul : u.len = us.length := by rw [hu.len, ints_length]
    have hsl : sum.len = us.length := by rw [ho.len, ints_length, xp_len hl (by omega), hl]
    have hd : decide ((i : Int) < ((u.len : Nat) : Int)) = true := by rw [hul]; simp; omega
    have e1 : IntKind.i64.wrap ((i : Int) + 1) = ((i + 1 : Nat) : Int) := by rw [w64 (by omega) (by omega)]; rfl
    obtain ⟨q, hq, lq⟩ := src_ld hu (show i < us.length by omega)
    obtain ⟨p, hp, lp⟩ := own_at ho (xp_at hl (show i < sm.length by omega))
    obtain ⟨p', w1, hp', s1, o1, u1⟩ := ho.st (i := i) (by omega) (.int .u8 (bits .xor .u8 (sm.getD i 0) (us.getD i 0)))
    obtain rfl : p = p' := Option.some.inj (hp.symm.trans hp')
    rw [ints_set_, xp_set hl (by omega)] at o1
    have hne0 : us ≠ [] := fun e => by rw [e] at hi; simp at hi
    obtain ⟨w2, h2, o2, u2⟩ := ih (i + 1) k w1 (by omega) (by omega) (src_upd hu u1 fun x hx _ => hne x hx hne0) o1
    refine ⟨w2, ?_, o2, u1.trans' u2 fun _ _ e => e⟩
    have c1 : (0 : Int) ≤ (i : Int) ∧ (i : Int) < ((u.len : Nat) : Int) := by omega
    have c2 : (0 : Int) ≤ (i : Int) ∧ (i : Int) < ((sum.len : Nat) : Int) := by omega
    have eu : digest_Stretch_l6 K (k + 1) = digest_Stretch_l6_b K (digest_Stretch_l6 K k) := rfl
    rw [eu]
    unfold digest_Stretch_l6_b
    rw [hd, if_pos rfl, hq, Option.bind_some, if_pos c1, Int.toNat_natCast, Nat.mul_one, lq, Option.bind_some, hp, Option.bind_some, if_pos c2, lp, Option.bind_some, Option.bind_some, if_pos c2, s1, Option.bind_some, e1, h2]

/-- the codes, one after the other -/
def strU (C S : List Int) (h : Int) (pass x : List Int) : Nat → List Int
  | 0 => macOf C S h pass x
  | t + 1 => macOf C S h pass (strU C S h pass x t)
/-- .. put together -/
def strF (C S : List Int) (h : Int) (pass x : List Int) : Nat → List Int
  | 0 => strU C S h pass x 0
  | t + 1 => xorL (strF C S h pass x t) (strU C S h pass x (t + 1))

theorem strU_len {h : Int} (hk : known h = true) (C S pass x : List Int) : ∀ t, (strU C S h pass x t).length = szH h
  | 0 => macOf_size hk ..
  | t + 1 => macOf_size hk ..
theorem strU_in (C S : List Int) (h : Int) (pass x : List Int) : ∀ t, ∀ y ∈ strU C S h pass x t, InK .u8 y
  | 0 => macOf_in C S h pass _
  | t + 1 => macOf_in C S h pass _
theorem strF_len {h : Int} (hk : known h = true) (C S pass x : List Int) : ∀ t, (strF C S h pass x t).length = szH h
  | 0 => macOf_size hk ..
  | t + 1 => by unfold strF; rw [xorL_len (by rw [strF_len hk C S pass x t, strU_len hk]), strF_len hk C S pass x t]
theorem strF_in (C S : List Int) (h : Int) (pass x : List Int) : ∀ t, ∀ y ∈ strF C S h pass x t, InK .u8 y
  | 0 => strU_in C S h pass x 0
  | t + 1 => by unfold strF; exact xorL_in (strF_in C S h pass x t) (strU_in C S h pass x (t + 1))

theorem Stretch_l5 {K : Nat} (hK : 18446744073709551616 ≤ K) {h : Int} (hk : known h = true) {C S pass x : List Int} {em : TypeId} {gm : Nat} {cs : List Value} (kd : KdC C S h pass [] cs) {B : Nat} {p2 : Sl} {p3 p4 : Int} {p15 : Sl} {p16 : Int} {u sum : Sl} (hum : ∀ k, u.blk = some k → k ≠ gm) (hsm : ∀ k, sum.blk = some k → k ≠ gm) (hB : 4 ≤ B) (hub : ∀ k, u.blk = some k → B ≤ k) (hsb : ∀ k, sum.blk = some k → B ≤ k) (hus : ∀ k, u.blk = some k → sum.blk ≠ some k) {m : Nat} (hm : m ≤ 1048576) :
    ∀ (d t k : Nat) (w : World), t + d = m → d < k → Tabs w C S → Bk em w gm cs → Ans B w u (strU C S h pass x t) → Own 5 w sum (ints .u8 (strF C S h pass x t)) →
      ∃ w', digest_Stretch_l5 K k p2 p3 p4 ⟨gm, 0, none⟩ p15 p16 u sum (m : Int) (t : Int) w = some ((), w') ∧ Own 5 w' sum (ints .u8 (strF C S h pass x m)) ∧ Upd (fun k => u.blk = some k ∨ sum.blk = some k) w w' := by
  intro d
  induction d with
  | zero =>
    intro t k w ht hkk hT hb hu ho
    obtain ⟨k, rfl⟩ : ∃ q, k = q + 1 := ⟨k - 1, by omega⟩
    have htt : t = m := by omega
    have hd : decide ((t : Int) < (m : Int)) = false := by simp; omega
    refine ⟨w, ?_, htt ▸ ho, Upd.refl _ _⟩
    have eu : digest_Stretch_l5 K (k + 1) = digest_Stretch_l5_b K (digest_Stretch_l5 K k) := rfl
    rw [eu]
    unfold digest_Stretch_l5_b
    rw [hd, if_neg (by decide)]
  | succ d ih =>
    intro t k w ht hkk hT hb hu ho
    obtain ⟨k, rfl⟩ : ∃ q, k = q + 1 := ⟨k - 1, by omega⟩
    have hd : decide ((t : Int) < (m : Int)) = true := by simp; omega
    have e1 : IntKind.i64.wrap ((t : Int) + 1) = ((t + 1 : Nat) : Int) := by rw [w64 (by omega) (by omega)]; rfl
    obtain ⟨_, h28, h64⟩ := szH_ok hk
    obtain ⟨w1, h1, a1, u1⟩ := again_ok hK hk hT hb kd hu (strU_len hk C S pass x t) (strU_in C S h pass x t) hum
    have a1 : Ans B w1 u (strU C S h pass x (t + 1)) := a1
    have o1 := ho.upd u1 fun k hk e => hus k e hk
    have hul := strU_len hk C S pass x (t + 1)
    obtain ⟨w2, h2, o2, u2⟩ := Stretch_l6 (K := K) (p2 := p2) (p3 := p3) (p4 := p4) (p13 := ⟨gm, 0, none⟩) (p15 := p15) (p17 := u) (p16 := p16) (p81 := (m : Int)) (p82 := (t : Int)) (sm := strF C S h pass x t) (us := strU C S h pass x (t + 1)) (by rw [strF_len hk, hul]) (by omega)
      (fun q hq _ e => hus q.block (by simp [Sl.blk, hq]) e) (strU C S h pass x (t + 1)).length 0 K w1 (by omega) (by omega) a1.src (by rw [xp_zero]; exact o1)
    have h2 : digest_Stretch_l6 K K p2 p3 p4 ⟨gm, 0, none⟩ p15 p16 u sum (m : Int) (t : Int) u ((u.len : Nat) : Int) 0 w1 = _ := h2
    have q : Upd (fun k => u.blk = some k ∨ sum.blk = some k) w w2 := (u1.mono fun k _ e => .inl e).trans' (u2.mono (T := fun k => u.blk = some k ∨ sum.blk = some k) fun k _ e => .inr e) fun _ _ e => e
    obtain ⟨w3, h3, o3, u3⟩ := ih (t + 1) k w2 (by omega) (by omega) (hT.upd q fun k hk e => by
      rcases e with e | e
      · have := hub k e; omega
      · have := hsb k e; omega) (hb.upd q fun e => by
      rcases e with e | e
      · exact hum _ e rfl
      · exact hsm _ e rfl) (a1.upd u2 fun k hk e => hus k hk e) o2
    refine ⟨w3, ?_, o3, q.trans' u3 fun _ _ e => e⟩
    have eu : digest_Stretch_l5 K (k + 1) = digest_Stretch_l5_b K (digest_Stretch_l5 K k) := rfl
    rw [eu]
    unfold digest_Stretch_l5_b
    rw [hd, if_pos rfl, h1, bnd_ok, h2, bnd_ok, e1, h3]

theorem Stretch_s4 {K : Nat} (hK : 18446744073709551616 ≤ K) {h : Int} (hk : known h = true) {C S pass salt : List Int} {w : World} (T : Tabs w C S) {em : TypeId} {gm : Nat} {cs : List Value} (hb : Bk em w gm cs) (kd : KdC C S h pass [] cs) {s : Sl} (hs : PartOk w (s, salt)) (hsl : salt.length ≤ 33554432) (i : Int) :
    ∃ u w', digest_Stretch_s4 K s ⟨gm, 0, none⟩ i w = some ((u, ()), w') ∧ Ans w.heap.size w' u (macOf C S h pass (salt ++ bigB i 4)) ∧ Upd none_ w w' := by
  have lA : ∀ {w' : World}, Bk em w' gm cs → ldA 284 ⟨gm, 0, none⟩ w' = some cs.toArray := by
    intro w' hb
    have := hb.ldA (i := 0) (n := 284) (by rw [kd.len]; decide)
    rw [List.drop_zero, List.take_of_length_le (by rw [kd.len]; decide)] at this
    exact this
  obtain ⟨r, w1, h1, o1, bl1, f1⟩ := big_ok hK (B := w.heap.size) i (m := 4) (by decide) (w := w.drew) (s := ⟨none, 0, 0⟩) (xs := []) (Own.nil 5 w.drew) (by decide) (Nat.le_refl _) (fun k hk => by cases hk)
  have h1 : digest_big K ⟨none, 0, 0⟩ i 4 w.drew = _ := h1
  rw [List.nil_append] at o1
  have u1 : Upd none_ w w1 := (Upd.of_below (S := none_) (w := w.drew) bl1).predrew
  have hs1 := u1.size
  have hb1 := hb.upd0 u1
  have p1 : PartOk w1 (s, salt) := ⟨hs.1.upd0 u1, hs.2.1, hs.2.2.1, fun q hq => by have := hs.2.2.2 q hq; omega⟩
  have p2 : PartOk w1 (r, bigB i 4) := ⟨o1.src ints_one, bigB_in i 4, by rw [show (r, bigB i 4).2.length = 4 from bigB_len i 4]; decide, lt_of_blk fun k hk => o1.lt hk⟩
  obtain ⟨w2, c1, c2, u2⟩ := some_parts [(s, salt), (r, bigB i 4)] (fun p hp => by
    simp only [List.mem_cons, List.not_mem_nil, or_false] at hp
    rcases hp with rfl | rfl
    · exact p1
    · exact p2) (by simp) (by simp)
  have c1 : bldS prog 24 2 #[(0, (.slice s.a s.len s.cap)), (1, (.slice r.a r.len r.cap))] w1 = some (⟨some ⟨w1.heap.size, 0, none⟩, 2, 2⟩, w2) := c1
  have c2 : Parts w2 ⟨some ⟨w1.heap.size, 0, none⟩, 2, 2⟩ ([(s, salt), (r, bigB i 4)].map (·.2)) (fun k => k < w2.heap.size) := c2
  have hfl : ([(s, salt), (r, bigB i 4)].map (·.2)).flatten = salt ++ bigB i 4 := by simp
  have hs2 := u2.size
  obtain ⟨u, w3, d1, d2, u3⟩ := kcode_ok hK hk ((T.upd0 u1).upd0 u2) kd c2 (fun k hk => hk) (by rw [hfl, List.length_append, bigB_len]; omega)
  rw [hfl] at d2
  refine ⟨u, w3, ?_, d2.mono (by omega), (u1.and0 u2).and0 u3⟩
  unfold digest_Stretch_s4
  rw [lA hb.drew, Option.bind_some, h1, bnd_ok, lA hb1, Option.bind_some, sameK_self, c1, bnd_ok, lA (hb1.upd0 u2), Option.bind_some, sameK_self, d1, bnd_ok, lA ((hb1.upd0 u2).upd0 u3), Option.bind_some, sameK_self]

/-- j blocks, one behind the other -/
def strO (C S : List Int) (h : Int) (pass salt : List Int) (m : Nat) : Nat → List Int
  | 0 => []
  | j + 1 => strO C S h pass salt m j ++ strF C S h pass (salt ++ bigB ((j + 1 : Nat) : Int) 4) m

theorem strO_len {h : Int} (hk : known h = true) (C S pass salt : List Int) (m : Nat) : ∀ j, (strO C S h pass salt m j).length = j * szH h
  | 0 => by simp [strO]
  | j + 1 => by unfold strO; rw [List.length_append, strO_len hk C S pass salt m j, Nat.succ_mul, strF_len hk]

theorem Stretch_l3 {K : Nat} (hK : 18446744073709551616 ≤ K) {h : Int} (hk : known h = true) {C S pass salt : List Int} {s : Sl} (hsl : salt.length ≤ 33554432) {n : Nat} (hn : 0 < n) (hn2 : n ≤ 65536) {m : Nat} (hm : m ≤ 1048575) {gm : Nat} {B : Nat} (hgB : gm < B) {cs : List Value} (kd : KdC C S h pass [] cs) :
    ∀ (d j k : Nat) (w : World) (out : Sl), j + d = cnt h n → d < k → Tabs w C S → Bk 89 w gm cs → PartOk w (s, salt) → (∀ q, s.a = some q → q.block < B) → Own 5 w out (ints .u8 (strO C S h pass salt m j)) → Fresh B out → 4 ≤ B → B ≤ w.heap.size →
      ∃ out' w', digest_Stretch_l3 K k s ((m + 1 : Nat) : Int) (n : Int) ⟨gm, 0, none⟩ out ((j + 1 : Nat) : Int) w = some ((out', ()), w') ∧ Own 5 w' out' (ints .u8 (strO C S h pass salt m (cnt h n))) ∧ Fresh B out' ∧ Below B w w' := by
  obtain ⟨hsz, hs28, hs64⟩ := szH_ok hk
  obtain ⟨hc1, hc2, hc3⟩ := cnt_ok hk hn
  have hcl : cnt h n ≤ 65536 := by
    rcases Nat.lt_or_ge 65536 (cnt h n) with e | e
    · have := hc3 65536 e
      have : 65536 * 28 ≤ 65536 * szH h := Nat.mul_le_mul_left _ hs28
      omega
    · exact e
  intro d
  induction d with
  | zero =>
    intro j k w out hj hkk hT hb hs hsb ho hf h4 hB
    obtain ⟨k, rfl⟩ : ∃ q, k = q + 1 := ⟨k - 1, by omega⟩
    have hol : out.len = j * szH h := by rw [ho.len, ints_length, strO_len hk]
    have hjj : j = cnt h n := by omega
    have hd : decide (((out.len : Nat) : Int) < (n : Int)) = false := by rw [hol, hjj]; simp only [decide_eq_false_iff_not]; omega
    refine ⟨out, w, ?_, hjj ▸ ho, hf, Below.refl B w⟩
    have eu : digest_Stretch_l3 K (k + 1) = digest_Stretch_l3_b K (digest_Stretch_l3 K k) := rfl
    rw [eu]
    unfold digest_Stretch_l3_b
    rw [hd, if_neg (by decide)]
  | succ d ih =>
    intro j k w out hj hkk hT hb hs hsb ho hf h4 hB
    obtain ⟨k, rfl⟩ : ∃ q, k = q + 1 := ⟨k - 1, by omega⟩
    have hol : out.len = j * szH h := by rw [ho.len, ints_length, strO_len hk]
    have hjl := hc3 j (by omega)
    have hd : decide (((out.len : Nat) : Int) < (n : Int)) = true := by rw [hol]; simp only [decide_eq_true_eq]; omega
    have ei : IntKind.u64.wrap (((j + 1 : Nat) : Int) + 1) = ((j + 1 + 1 : Nat) : Int) := by rw [IntKind.wrap_u64]; omega
    have em : IntKind.i64.wrap (((m + 1 : Nat) : Int) - 1) = (m : Int) := by rw [w64 (by omega) (by omega)]; omega
    obtain ⟨u, w1, h1, a1, u1⟩ := Stretch_s4 hK hk hT hb kd hs hsl ((j + 1 : Nat) : Int)
    have hs1 := u1.size
    have a1 : Ans w.heap.size w1 u (strU C S h pass (salt ++ bigB ((j + 1 : Nat) : Int) 4) 0) := a1
    have hul := strU_len hk C S pass (salt ++ bigB ((j + 1 : Nat) : Int) 4) 0
    obtain ⟨sm, w2, h2, l2, o2, u2, f2⟩ := apd_ok sliceB (Own.nil 5 w1) a1.src (by rw [a1.len, hul]; show (0 + szH h) * 1 ≤ _; omega)
    rw [List.nil_append] at o2
    have h2 : apd prog 25 25 (.slice none 0 0) (.slice u.a u.len u.cap) w1 = some (sm, w2) := h2
    have u2' : Upd none_ w1 w2 := u2.mono fun k _ e => by cases e
    have hs2 := u2'.size
    have fsm : ∀ k, sm.blk = some k → w1.heap.size ≤ k := fun k hk => by
      rcases f2 with e | e
      · rw [e] at hk; cases hk
      · rw [e] at hk; have := Option.some.inj hk; omega
    have hub : ∀ k, u.blk = some k → w.heap.size ≤ k ∧ k < w1.heap.size := fun k hk => ⟨a1.fresh k hk, a1.lt hk⟩
    have q2 := u1.and0 u2'
    obtain ⟨w3, h3, o3, u3⟩ := Stretch_l5 hK hk kd (x := salt ++ bigB ((j + 1 : Nat) : Int) 4) (em := 89) (gm := gm) (B := w.heap.size) (p2 := s) (p3 := ((m + 1 : Nat) : Int)) (p4 := (n : Int)) (p15 := out) (p16 := ((j + 1 : Nat) : Int)) (u := u) (sum := sm) (fun k hk => by have := hub k hk; omega) (fun k hk => by have := fsm k hk; omega) (by omega) (fun k hk => (hub k hk).1) (fun k hk => by have := fsm k hk; omega) (fun k hk e => by have := hub k hk; have := fsm k e; omega) (m := m) (by omega)
      m 0 K w2 (by omega) (by omega) (hT.upd0 q2) (hb.upd0 q2) (a1.upd0 u2') o2
    have h3 : digest_Stretch_l5 K K s ((m + 1 : Nat) : Int) (n : Int) ⟨gm, 0, none⟩ out ((j + 1 : Nat) : Int) u sm (m : Int) 0 w2 = _ := h3
    have hs3 := u3.size
    have q3 : Upd none_ w w3 := q2.trans' u3 fun k hk e => by
      rcases e with e | e
      · have := hub k e; omega
      · have := fsm k e; omega
    have hfl := strF_len hk C S pass (salt ++ bigB ((j + 1 : Nat) : Int) 4) m
    obtain ⟨o4, w4, h4', l4, o4', u4, f4⟩ := apd_ok sliceB (ho.upd0 q3) (o3.src ints_one) (by rw [hol, o3.len, ints_length, hfl]; omega)
    rw [← ints_append] at o4'
    have o4' : Own 5 w4 o4 (ints .u8 (strO C S h pass salt m (j + 1))) := o4'
    have hob : ∀ k, out.blk = some k → k < w.heap.size := fun k hk => ho.lt hk
    have q4 : Upd (fun k => out.blk = some k) w w4 := (q3.mono (T := fun k => out.blk = some k) fun _ _ e => e.elim).trans' u4 fun _ _ e => e
    have bl : Below B w w4 := q4.below hB fun k hk e => by have := hf k e; omega
    have hs4 := q4.size
    obtain ⟨out', w', g1, g2, g3, g4⟩ := ih (j + 1) k w4 o4 (by omega) (by omega) (hT.upd q4 fun k hk e => by have := hf k e; omega) (hb.upd q4 fun e => by have := hf _ e; omega)
      ⟨hs.1.upd q4 fun q hq e => by have := hf _ e; have := hsb q hq; omega, hs.2.1, hs.2.2.1, fun q hq => by have := hs.2.2.2 q hq; omega⟩ hsb o4'
      (fun k hk => by
        rcases f4 with f4 | f4
        · exact hf k (f4 ▸ hk)
        · rw [f4] at hk; have := Option.some.inj hk; omega) h4 (by omega)
    refine ⟨out', w', ?_, g2, g3, bl.trans g4⟩
    have eu : digest_Stretch_l3 K (k + 1) = digest_Stretch_l3_b K (digest_Stretch_l3 K k) := rfl
    rw [eu]
    unfold digest_Stretch_l3_b
    rw [hd, if_pos rfl, h1, bnd_ok]
    dsimp only
    rw [h2, bnd_ok, em, h3, bnd_ok, h4', bnd_ok, ei, g1]

end Go.Sh

/- DigestStretches: every refusal of Stretch, and the bytes. -/
set_option linter.unusedVariables false
namespace Go.Sh
open Go.Fw Go.Sha Go.RowKit Go.Proofs.Tryd Go.Deep

/-- what Stretch refuses -/
def strErr (h : Int) (p s : Nat) (turns n : Int) : Int :=
  if known h = false then 10 else if p > 33554432 ∨ s > 33554428 then 4 else if turns < 1 ∨ turns > 1048576 then 11 else if n < 1 ∨ n > 65536 ∨ turns * ((cnt h n.toNat : Nat) : Int) > 2097152 then 12 else 0

theorem strErr_10 {h : Int} (hk : known h = false) (p s : Nat) (t n : Int) : strErr h p s t n = 10 := by unfold strErr; rw [if_pos hk]
theorem strErr_4 {h : Int} (hk : known h = true) {p s : Nat} (h1 : p > 33554432 ∨ s > 33554428) (t n : Int) : strErr h p s t n = 4 := by
  unfold strErr; rw [if_neg (by rw [hk]; decide), if_pos h1]
theorem strErr_11 {h : Int} (hk : known h = true) {p s : Nat} (h1 : ¬ (p > 33554432 ∨ s > 33554428)) {t : Int} (h2 : t < 1 ∨ t > 1048576) (n : Int) : strErr h p s t n = 11 := by
  unfold strErr; rw [if_neg (by rw [hk]; decide), if_neg h1, if_pos h2]
theorem strErr_12 {h : Int} (hk : known h = true) {p s : Nat} (h1 : ¬ (p > 33554432 ∨ s > 33554428)) {t n : Int} (h2 : ¬ (t < 1 ∨ t > 1048576)) (h3 : n < 1 ∨ n > 65536 ∨ t * ((cnt h n.toNat : Nat) : Int) > 2097152) : strErr h p s t n = 12 := by
  unfold strErr; rw [if_neg (by rw [hk]; decide), if_neg h1, if_neg h2, if_pos h3]
theorem strErr_0 {h : Int} (hk : known h = true) {p s : Nat} (h1 : ¬ (p > 33554432 ∨ s > 33554428)) {t n : Int} (h2 : ¬ (t < 1 ∨ t > 1048576)) (h3 : ¬ (n < 1 ∨ n > 65536 ∨ t * ((cnt h n.toNat : Nat) : Int) > 2097152)) : strErr h p s t n = 0 := by
  unfold strErr; rw [if_neg (by rw [hk]; decide), if_neg h1, if_neg h2, if_neg h3]

theorem cnt_le {h : Int} (hk : known h = true) {n : Nat} (hn : n ≤ 65536) : cnt h n ≤ 65536 := by
  obtain ⟨_, h28, h64⟩ := szH_ok hk
  unfold cnt
  exact Nat.le_trans (Nat.div_le_div_right (c := szH h) (show n + szH h - 1 ≤ 65536 * szH h by omega)) (by rw [Nat.mul_div_cancel _ (by omega)]; exact Nat.le_refl _)

theorem cnt_reckon {h : Int} (hk : known h = true) {t n : Int} (ht : ¬ (t < 1 ∨ t > 1048576)) (h1 : ¬ n < 1) (h2 : ¬ n > 65536) :
    IntKind.i64.wrap (t * (IntKind.i64.wrap (Int.tdiv (IntKind.i64.wrap ((IntKind.i64.wrap (n + sizeOfH h)) - 1)) (sizeOfH h)))) = t * ((cnt h n.toNat : Nat) : Int) := by
  obtain ⟨e, h28, h64⟩ := szH_ok hk
  obtain ⟨m, rfl⟩ : ∃ m : Nat, n = (m : Int) := ⟨n.toNat, by omega⟩
  obtain ⟨q, rfl⟩ : ∃ q : Nat, t = (q : Int) := ⟨t.toNat, by omega⟩
  have hc := cnt_le hk (n := m) (by omega)
  have hq : q * cnt h m ≤ 1048576 * 65536 := Nat.mul_le_mul (by omega) hc
  rw [e, w64 (n := (m : Int) + _) (by omega) (by omega), w64 (n := (m : Int) + _ - 1) (by omega) (by omega), Int.toNat_natCast]
  have e1 : (m : Int) + ((szH h : Nat) : Int) - 1 = ((m + szH h - 1 : Nat) : Int) := by omega
  have e2 : (m + szH h - 1) / szH h = cnt h m := rfl
  rw [e1, tdiv_nat, e2, wn64 (by omega)]
  have e3 : (q : Int) * ((cnt h m : Nat) : Int) = ((q * cnt h m : Nat) : Int) := by simp
  rw [e3, wn64 (by omega)]

theorem size_ne {h : Int} (hk : known h = true) : sizeOfH h ≠ 0 := by obtain ⟨e, h28, _⟩ := szH_ok hk; omega

theorem Stretch_s0_ok {K : Nat} {h : Int} {pass salt : Sl} {t n : Int} (w : World) :
    digest_Stretch_s0 K pass salt t n (sizeOfH h) w = some (if strErr h pass.len salt.len t n = 0 then .norm () else .ret (⟨none, 0, 0⟩, strErr h pass.len salt.len t n, ()), w) := by
  unfold digest_Stretch_s0
  rw [size_zero]
  cases hk : known h with
  | false => rw [strErr_10 hk]; rfl
  | true =>
    rw [if_neg (by decide)]
    have e1 : digest_Stretch_s1 K pass salt w = some ((decide (pass.len > 33554432 ∨ salt.len > 33554428), ()), w) := by
      unfold digest_Stretch_s1
      by_cases h2 : pass.len > 33554432
      · have hd : decide (((pass.len : Nat) : Int) > 33554432) = true := by simp only [decide_eq_true_eq]; omega
        rw [hd, if_pos rfl, decide_eq_true (show pass.len > 33554432 ∨ salt.len > 33554428 from .inl h2)]
      · have hd : decide (((pass.len : Nat) : Int) > 33554432) = false := by simp only [decide_eq_false_iff_not]; omega
        have hd2 : decide (((salt.len : Nat) : Int) > 33554428) = decide (pass.len > 33554432 ∨ salt.len > 33554428) := by
          by_cases h3 : salt.len > 33554428
          · rw [decide_eq_true (show pass.len > 33554432 ∨ salt.len > 33554428 from .inr h3)]; simp only [decide_eq_true_eq]; omega
          · rw [decide_eq_false (show ¬ (pass.len > 33554432 ∨ salt.len > 33554428) by omega)]; simp only [decide_eq_false_iff_not]; omega
        rw [hd, if_neg (by decide), hd2]
    have e2 : digest_Stretch_s2 K t w = some ((decide (t < 1 ∨ t > 1048576), ()), w) := by
      unfold digest_Stretch_s2
      by_cases h2 : t < 1
      · rw [decide_eq_true h2, if_pos rfl, decide_eq_true (show t < 1 ∨ t > 1048576 from .inl h2)]
      · rw [decide_eq_false h2, if_neg (by decide)]
        by_cases h3 : t > 1048576
        · rw [decide_eq_true h3, decide_eq_true (show t < 1 ∨ t > 1048576 from .inr h3)]
        · rw [decide_eq_false h3, decide_eq_false (show ¬ (t < 1 ∨ t > 1048576) by omega)]
    rw [e1, bnd_ok]
    dsimp only
    by_cases c1 : pass.len > 33554432 ∨ salt.len > 33554428
    · rw [decide_eq_true c1, if_pos rfl, strErr_4 hk c1, if_neg (by decide)]
    · rw [decide_eq_false c1, if_neg (by decide), e2, bnd_ok]
      dsimp only
      by_cases c2 : t < 1 ∨ t > 1048576
      · rw [decide_eq_true c2, if_pos rfl, strErr_11 hk c1 c2, if_neg (by decide)]
      · rw [decide_eq_false c2, if_neg (by decide)]
        by_cases c3 : n < 1
        · rw [decide_eq_true c3, if_pos rfl, strErr_12 hk c1 c2 (.inl c3), if_neg (by decide)]
        · rw [decide_eq_false c3, if_neg (by decide)]
          by_cases c4 : n > 65536
          · rw [decide_eq_true c4, if_pos rfl, strErr_12 hk c1 c2 (.inr (.inl c4)), if_neg (by decide)]
          · rw [decide_eq_false c4, if_neg (by decide), if_pos (size_ne hk), cnt_reckon hk c2 c3 c4]
            by_cases c5 : t * ((cnt h n.toNat : Nat) : Int) > 2097152
            · rw [decide_eq_true c5, if_pos rfl, strErr_12 hk c1 c2 (.inr (.inr c5)), if_neg (by decide)]
            · rw [decide_eq_false c5, if_neg (by decide), strErr_0 hk c1 c2 (fun e => e.elim c3 fun e => e.elim c4 c5), if_pos rfl]

theorem refStretchError_ok (h : Int) (p s : Nat) (t n : Int) : ref01_StretchError h (p : Int) (s : Int) t n = some (strErr h p s t n, ()) := by
  unfold ref01_StretchError
  rw [refSize_ok, Option.bind_some]
  dsimp only
  rw [size_zero]
  cases hk : known h with
  | false => rw [strErr_10 hk]; rfl
  | true =>
    rw [if_neg (by decide)]
    have e1 : ref01_StretchError_s0 (p : Int) (s : Int) = some (.norm (decide (p > 33554432 ∨ s > 33554428), ())) := by
      unfold ref01_StretchError_s0
      by_cases h2 : p > 33554432
      · have hd : decide (((p : Nat) : Int) > 33554432) = true := by simp only [decide_eq_true_eq]; omega
        rw [hd, if_pos rfl, decide_eq_true (show p > 33554432 ∨ s > 33554428 from .inl h2)]
      · have hd : decide (((p : Nat) : Int) > 33554432) = false := by simp only [decide_eq_false_iff_not]; omega
        have hd2 : decide (((s : Nat) : Int) > 33554428) = decide (p > 33554432 ∨ s > 33554428) := by
          by_cases h3 : s > 33554428
          · rw [decide_eq_true (show p > 33554432 ∨ s > 33554428 from .inr h3)]; simp only [decide_eq_true_eq]; omega
          · rw [decide_eq_false (show ¬ (p > 33554432 ∨ s > 33554428) by omega)]; simp only [decide_eq_false_iff_not]; omega
        rw [hd, if_neg (by decide), hd2]
    have e2 : ref01_StretchError_s1 t = some (.norm (decide (t < 1 ∨ t > 1048576), ())) := by
      unfold ref01_StretchError_s1
      by_cases h2 : t < 1
      · rw [decide_eq_true h2, if_pos rfl, decide_eq_true (show t < 1 ∨ t > 1048576 from .inl h2)]
      · rw [decide_eq_false h2, if_neg (by decide)]
        by_cases h3 : t > 1048576
        · rw [decide_eq_true h3, decide_eq_true (show t < 1 ∨ t > 1048576 from .inr h3)]
        · rw [decide_eq_false h3, decide_eq_false (show ¬ (t < 1 ∨ t > 1048576) by omega)]
    rw [e1, Option.bind_some]
    dsimp only
    by_cases c1 : p > 33554432 ∨ s > 33554428
    · rw [decide_eq_true c1, if_pos rfl, strErr_4 hk c1]
    · rw [decide_eq_false c1, if_neg (by decide), e2, Option.bind_some]
      dsimp only
      by_cases c2 : t < 1 ∨ t > 1048576
      · rw [decide_eq_true c2, if_pos rfl, strErr_11 hk c1 c2]
      · rw [decide_eq_false c2, if_neg (by decide)]
        by_cases c3 : n < 1
        · rw [decide_eq_true c3, if_pos rfl, strErr_12 hk c1 c2 (.inl c3)]
        · rw [decide_eq_false c3, if_neg (by decide)]
          by_cases c4 : n > 65536
          · rw [decide_eq_true c4, if_pos rfl, strErr_12 hk c1 c2 (.inr (.inl c4))]
          · rw [decide_eq_false c4, if_neg (by decide), if_pos (size_ne hk), cnt_reckon hk c2 c3 c4]
            by_cases c5 : t * ((cnt h n.toNat : Nat) : Int) > 2097152
            · rw [decide_eq_true c5, if_pos rfl, strErr_12 hk c1 c2 (.inr (.inr c5))]
            · rw [decide_eq_false c5, if_neg (by decide), strErr_0 hk c1 c2 (fun e => e.elim c3 fun e => e.elim c4 c5)]

theorem strErr_zero {h : Int} {p s : Nat} {t n : Int} (he : strErr h p s t n = 0) : known h = true ∧ p ≤ 33554432 ∧ s ≤ 33554428 ∧ (∃ m : Nat, t = ((m + 1 : Nat) : Int) ∧ m ≤ 1048575) ∧ ∃ m : Nat, n = (m : Int) ∧ 0 < m ∧ m ≤ 65536 := by
  cases hk : known h with
  | false => rw [strErr_10 hk] at he; cases he
  | true =>
    by_cases c1 : p > 33554432 ∨ s > 33554428
    · rw [strErr_4 hk c1] at he; cases he
    · by_cases c2 : t < 1 ∨ t > 1048576
      · rw [strErr_11 hk c1 c2] at he; cases he
      · by_cases c3 : n < 1 ∨ n > 65536 ∨ t * ((cnt h n.toNat : Nat) : Int) > 2097152
        · rw [strErr_12 hk c1 c2 c3] at he; cases he
        · have c4 : ¬ n < 1 := fun e => c3 (.inl e)
          have c5 : ¬ n > 65536 := fun e => c3 (.inr (.inl e))
          exact ⟨rfl, by omega, by omega, ⟨(t - 1).toNat, by omega, by omega⟩, n.toNat, by omega, by omega, by omega⟩

/-- what Stretch tells -/
def strOf (C S : List Int) (h : Int) (pass salt : List Int) (t n : Int) : List Int :=
  if strErr h pass.length salt.length t n = 0 then (strO C S h pass salt (t - 1).toNat (cnt h n.toNat)).take n.toNat else []

theorem strOf_len (C S : List Int) (h : Int) (pass salt : List Int) (t n : Int) : (strOf C S h pass salt t n).length ≤ 65536 := by
  unfold strOf
  split
  · rename_i he
    obtain ⟨hk, _, _, _, m, rfl, _, hm⟩ := strErr_zero he
    rw [List.length_take, Int.toNat_natCast]; omega
  · exact Nat.zero_le _

theorem Stretch_any {K : Nat} (hK : 18446744073709551616 ≤ K) (h : Int) {C S pass salt : List Int} {w : World} (T : Tabs w C S) {sp ss : Sl} (hp : PartOk w (sp, pass)) (hs : PartOk w (ss, salt)) (t n : Int) :
    ∃ s' w', digest_Stretch K h sp ss t n w = some ((s', strErr h pass.length salt.length t n, ()), w') ∧ Vw 5 w' s' (ints .u8 (strOf C S h pass salt t n)) ∧ Fresh w.heap.size s' ∧ Upd none_ w w' := by
  have h4 := T.lt
  have hpl : sp.len = pass.length := by rw [hp.1.len, ints_length]
  have hsl : ss.len = salt.length := by rw [hs.1.len, ints_length]
  obtain ⟨w1, h1, u1⟩ := Size_ok h w
  have hs1 := u1.size
  have hs0 := Stretch_s0_ok (K := K) (h := h) (pass := sp) (salt := ss) (t := t) (n := n) w1
  rw [hpl, hsl] at hs0
  unfold strOf
  by_cases he : strErr h pass.length salt.length t n = 0
  · rw [if_pos he] at hs0 ⊢
    obtain ⟨hk, hl1, hl2, ⟨m, rfl, hm⟩, q, rfl, hq0, hq1⟩ := strErr_zero he
    rw [Int.toNat_natCast]
    have em : (((m + 1 : Nat) : Int) - 1).toNat = m := by omega
    rw [em]
    obtain ⟨hsz, hs28, hs64⟩ := szH_ok hk
    obtain ⟨hc1, hc2, hc3⟩ := cnt_ok hk hq0
    have hcl := cnt_le hk hq1
    obtain ⟨cs, w2, h2, kd, u2⟩ := key_ok hK hk (T.upd0 u1) (hp.1.upd0 u1) hp.2.1 (show pass.length ≤ 1099511627776 by omega) (fun q hq => by have := hp.2.2.2 q hq; show q.block < _; omega)
    have hs2 := u2.size
    obtain ⟨w3, n3, b3, u3, z3⟩ := newB_ok z89 89 w2
    obtain ⟨w4, s4, b4, u4, _⟩ := lay b3 (vs := cs) (by rw [kd.len]; kernel_rfl) kd.one
    have hs3 := u3.size
    have hs4 := u4.size
    have q4 : Upd none_ w w4 := ((u1.and0 u2).and0 u3).trans' u4 fun k hk e => by omega
    obtain ⟨out, w5, h5, o5, f5, bl5⟩ := Stretch_l3 hK hk (C := C) (S := S) (pass := pass) (salt := salt) (s := ss) (by omega) hq0 hq1 (m := m) hm (gm := w2.heap.size) (B := w4.heap.size) b4.lt kd (cnt h q) 0 K w4 ⟨none, 0, 0⟩ (by omega) (by omega) (T.upd0 q4) b4
      ⟨hs.1.upd0 q4, hs.2.1, hs.2.2.1, fun q hq => by have := hs.2.2.2 q hq; show q.block < _; omega⟩ (fun q hq => by have := hs.2.2.2 q hq; omega) (Own.nil 5 w4) (fun k hk => by cases hk) (by omega) (Nat.le_refl _)
    have h5 : digest_Stretch_l3 K K ss ((m + 1 : Nat) : Int) (q : Int) ⟨w2.heap.size, 0, none⟩ ⟨none, 0, 0⟩ 1 w4 = _ := h5
    have hol : out.len = cnt h q * szH h := by rw [o5.len, ints_length, strO_len hk]
    have hcap := o5.cap
    have hne : ints .u8 (strO C S h pass salt m (cnt h q)) ≠ [] := fun e => by
      have := congrArg List.length e
      rw [ints_length, strO_len hk] at this
      simp at this; omega
    have hv := o5.front hne (n := q) (c := q) (by omega) (Nat.le_refl _) (by omega)
    rw [ints_take] at hv
    have esl : sla out.a 0 q 1 = out.a := sla_zero ..
    refine ⟨⟨out.a, q, q⟩, w5, ?_, hv, fun k hk => by have := f5 k hk; have := q4.size; omega, q4.and0 (Upd.of_below bl5)⟩
    unfold digest_Stretch
    rw [h1, bnd_ok, hs0, bnd_ok]
    dsimp only
    rw [h2, bnd_ok, n3, bnd_ok]
    dsimp only
    rw [if_pos (by rw [List.size_toArray, kd.len]), s4, Option.bind_some, h5, bnd_ok]
    dsimp only
    rw [if_pos (by omega), Int.toNat_natCast, if_pos (by omega), esl, he, Nat.sub_zero]
  · rw [if_neg he] at hs0 ⊢
    refine ⟨⟨none, 0, 0⟩, w1, ?_, Vw.nil 5 w1, (fun k hk => by cases hk), u1⟩
    unfold digest_Stretch
    rw [h1, bnd_ok, hs0, bnd_ok]

/-! ### The document's answer -/

theorem bigB_4 (i : Int) : bigB i 4 = [IntKind.u8.wrap (Int.fdiv i (2 ^ 24)), IntKind.u8.wrap (Int.fdiv i (2 ^ 16)), IntKind.u8.wrap (Int.fdiv i (2 ^ 8)), IntKind.u8.wrap i] := by
  simp only [bigB]
  have : Int.fdiv i (2 ^ (8 * 0)) = i := by simp
  rw [this]

theorem refStretch_l2 {K : Nat} {p1 p2 p3 : Sl} {h t n : Int} {p12 p16 : Int} {u sum : Sl} {us sm : List Int} (hl : sm.length = us.length) (hl2 : us.length ≤ 64) (hne : ∀ q, u.a = some q → us ≠ [] → sum.blk ≠ some q.block) :
    ∀ (d i k : Nat) (w : World), i + d = us.length → d < k → Src w u (ints .u8 us) → Own 5 w sum (ints .u8 (xp sm us i)) →
      ∃ w', ref01_Stretch_l2 K k h p1 p2 t n p3 p12 u sum p16 (i : Int) w = some ((), w') ∧ Own 5 w' sum (ints .u8 (xorL sm us)) ∧ Upd (fun k => sum.blk = some k) w w' := by
  intro d
  induction d with
  | zero =>
    intro i k w hi hkk hu ho
    obtain ⟨k, rfl⟩ : ∃ q, k = q + 1 := ⟨k - 1, by omega⟩
    have hul : u.len = us.length := by rw [hu.len, ints_length]
    have hd : decide ((i : Int) < ((u.len : Nat) : Int)) = false := by rw [hul]; simp; omega
    have e : xp sm us i = xorL sm us := by rw [show i = sm.length by omega, xp_all hl]
    refine ⟨w, ?_, e ▸ ho, Upd.refl _ _⟩
    have eu : ref01_Stretch_l2 K (k + 1) = ref01_Stretch_l2_b K (ref01_Stretch_l2 K k) := rfl
    rw [eu]
    unfold ref01_Stretch_l2_b
    rw [hd, if_neg (by decide)]
  | succ d ih =>
    intro i k w hi hkk hu ho
    obtain ⟨k, rfl⟩ : ∃ q, k = q + 1 := ⟨k - 1, by omega⟩
    have hul : u.len = us.length := by rw [hu.len, ints_length]
    have hsl : sum.len = us.length := by rw [ho.len, ints_length, xp_len hl (by omega), hl]
    have hd : decide ((i : Int) < ((u.len : Nat) : Int)) = true := by rw [hul]; simp; omega
    have e1 : IntKind.i64.wrap ((i : Int) + 1) = ((i + 1 : Nat) : Int) := by rw [w64 (by omega) (by omega)]; rfl
    have ud : Upd none_ w w.drew := (Upd.refl none_ w).drew
    obtain ⟨q, hq, lq⟩ := src_ld (hu.upd0 ud) (show i < us.length by omega)
    obtain ⟨p, hp, lp⟩ := own_at ho.drew (xp_at hl (show i < sm.length by omega))
    obtain ⟨p', w1, hp', s1, o1, u1'⟩ := ho.drew.st (i := i) (by omega) (.int .u8 (bits .xor .u8 (sm.getD i 0) (us.getD i 0)))
    have u1 := u1'.predrew
    obtain rfl : p = p' := Option.some.inj (hp.symm.trans hp')
    rw [ints_set_, xp_set hl (by omega)] at o1
    have hne0 : us ≠ [] := fun e => by rw [e] at hi; simp at hi
    obtain ⟨w2, h2, o2, u2⟩ := ih (i + 1) k w1 (by omega) (by omega) (src_upd hu u1 fun x hx _ => hne x hx hne0) o1
    refine ⟨w2, ?_, o2, u1.trans' u2 fun _ _ e => e⟩
    have c1 : (0 : Int) ≤ (i : Int) ∧ (i : Int) < ((u.len : Nat) : Int) := by omega
    have c2 : (0 : Int) ≤ (i : Int) ∧ (i : Int) < ((sum.len : Nat) : Int) := by omega
    have eu : ref01_Stretch_l2 K (k + 1) = ref01_Stretch_l2_b K (ref01_Stretch_l2 K k) := rfl
    rw [eu]
    unfold ref01_Stretch_l2_b
    rw [hd, if_pos rfl, hp, Option.bind_some, if_pos c2, hq, Option.bind_some, if_pos c1, Int.toNat_natCast, Nat.mul_one, lp, Option.bind_some, lq, Option.bind_some, Option.bind_some, if_pos c2, s1, Option.bind_some, e1, h2]

theorem refStretch_l1 {K : Nat} (hK : 18446744073709551616 ≤ K) {h : Int} (hk : known h = true) {C S pass x : List Int} {sp : Sl} (hpi : ∀ y ∈ pass, InK .u8 y) (hpl : pass.length ≤ 1099511627776) {B : Nat} (hB4 : 4 ≤ B) {p2 p3 : Sl} {n p12 : Int} {sum : Sl} (hsb : ∀ k, sum.blk = some k → B ≤ k) {m : Nat} (hm : m ≤ 1048576) :
    ∀ (d t k : Nat) (w : World) (u : Sl), t + d = m → d < k → TabsR w C S → Src w sp (ints .u8 pass) → (∀ q, sp.a = some q → ints .u8 pass ≠ [] → q.block < B) → Own 5 w u (ints .u8 (strU C S h pass x t)) → Own 5 w sum (ints .u8 (strF C S h pass x t)) →
      ∃ w', ref01_Stretch_l1 K k h sp p2 ((m + 1 : Nat) : Int) n p3 p12 u sum ((t + 1 : Nat) : Int) w = some ((), w') ∧ Own 5 w' sum (ints .u8 (strF C S h pass x m)) ∧ Upd (fun k => sum.blk = some k) w w' := by
  intro d
  induction d with
  | zero =>
    intro t k w u ht hkk hT hp hpb hu ho
    obtain ⟨k, rfl⟩ : ∃ q, k = q + 1 := ⟨k - 1, by omega⟩
    have htt : t = m := by omega
    have hd : decide (((t + 1 : Nat) : Int) < ((m + 1 : Nat) : Int)) = false := by simp; omega
    refine ⟨w, ?_, htt ▸ ho, Upd.refl _ _⟩
    have eu : ref01_Stretch_l1 K (k + 1) = ref01_Stretch_l1_b K (ref01_Stretch_l1 K k) := rfl
    rw [eu]
    unfold ref01_Stretch_l1_b
    rw [hd, if_neg (by decide)]
  | succ d ih =>
    intro t k w u ht hkk hT hp hpb hu ho
    obtain ⟨k, rfl⟩ : ∃ q, k = q + 1 := ⟨k - 1, by omega⟩
    have hd : decide (((t + 1 : Nat) : Int) < ((m + 1 : Nat) : Int)) = true := by simp; omega
    have e1 : IntKind.i64.wrap (((t + 1 : Nat) : Int) + 1) = ((t + 1 + 1 : Nat) : Int) := by rw [w64 (by omega) (by omega)]; rfl
    obtain ⟨_, h28, h64⟩ := szH_ok hk
    have hul0 := strU_len hk C S pass x t
    obtain ⟨r, w1, h1, or1, u1, fr⟩ := refCode_ok hK h hT hp hpi hpl (hu.src ints_one) (strU_in C S h pass x t) (by omega)
    unfold codeOf at or1
    rw [if_pos hk] at or1
    have or1 : Own 5 w1 r (ints .u8 (strU C S h pass x (t + 1))) := or1
    have hul := strU_len hk C S pass x (t + 1)
    have hsb2 : ∀ k, sum.blk = some k → k < w.heap.size := fun k hk => ho.lt hk
    obtain ⟨w2, h2, o2, u2⟩ := refStretch_l2 (K := K) (p1 := sp) (p2 := p2) (p3 := p3) (h := h) (t := ((m + 1 : Nat) : Int)) (n := n) (p12 := p12) (p16 := ((t + 1 : Nat) : Int)) (u := r) (sum := sum) (sm := strF C S h pass x t) (us := strU C S h pass x (t + 1)) (by rw [strF_len hk, hul]) (by omega)
      (fun q hq _ e => by have := hsb2 _ e; have := fr q.block (by simp [Sl.blk, hq]); omega) (strU C S h pass x (t + 1)).length 0 K w1 (by omega) (by omega) (or1.src ints_one) (by rw [xp_zero]; exact ho.upd0 u1)
    have h2 : ref01_Stretch_l2 K K h sp p2 ((m + 1 : Nat) : Int) n p3 p12 r sum ((t + 1 : Nat) : Int) 0 w1 = _ := h2
    have q : Upd (fun k => sum.blk = some k) w w2 := (u1.mono (T := fun k => sum.blk = some k) fun _ _ e => e.elim).trans' u2 fun _ _ e => e
    obtain ⟨w3, h3, o3, u3⟩ := ih (t + 1) k w2 r (by omega) (by omega) (hT.upd q fun k hk e => by have := hsb k e; omega) (src_upd hp q fun y hy hne e => by have := hsb _ e; have := hpb y hy hne; omega) hpb (or1.upd u2 fun k hk e => by have := hsb2 _ e; have := fr k hk; omega) o2
    refine ⟨w3, ?_, o3, q.trans' u3 fun _ _ e => e⟩
    have eu : ref01_Stretch_l1 K (k + 1) = ref01_Stretch_l1_b K (ref01_Stretch_l1 K k) := rfl
    rw [eu]
    unfold ref01_Stretch_l1_b
    rw [hd, if_pos rfl, h1, bnd_ok]
    dsimp only
    rw [h2, bnd_ok, e1, h3]

theorem refStretch_l0 {K : Nat} (hK : 18446744073709551616 ≤ K) {h : Int} (hk : known h = true) {C S pass salt : List Int} {sp s : Sl} (hpi : ∀ y ∈ pass, InK .u8 y) (hpl : pass.length ≤ 1099511627776) (hsi : ∀ y ∈ salt, InK .u8 y) (hsl : salt.length ≤ 33554432) {n : Nat} (hn : 0 < n) (hn2 : n ≤ 65536) {m : Nat} (hm : m ≤ 1048575) {B : Nat} :
    ∀ (d j k : Nat) (w : World) (out : Sl), j + d = cnt h n → d < k → TabsR w C S → Src w sp (ints .u8 pass) → (∀ q, sp.a = some q → ints .u8 pass ≠ [] → q.block < B) → Src w s (ints .u8 salt) → (∀ q, s.a = some q → ints .u8 salt ≠ [] → q.block < B) → Own 5 w out (ints .u8 (strO C S h pass salt m j)) → Fresh B out → 4 ≤ B → B ≤ w.heap.size →
      ∃ out' w', ref01_Stretch_l0 K k h sp s ((m + 1 : Nat) : Int) (n : Int) out ((j + 1 : Nat) : Int) w = some ((out', ()), w') ∧ Own 5 w' out' (ints .u8 (strO C S h pass salt m (cnt h n))) ∧ Fresh B out' ∧ Below B w w' := by
  obtain ⟨hsz, hs28, hs64⟩ := szH_ok hk
  obtain ⟨hc1, hc2, hc3⟩ := cnt_ok hk hn
  have hcl := cnt_le hk hn2
  intro d
  induction d with
  | zero =>
    intro j k w out hj hkk hT hp hpb hs hsb ho hf h4 hB
    obtain ⟨k, rfl⟩ : ∃ q, k = q + 1 := ⟨k - 1, by omega⟩
    have hol : out.len = j * szH h := by rw [ho.len, ints_length, strO_len hk]
    have hjj : j = cnt h n := by omega
    have hd : decide (((out.len : Nat) : Int) < (n : Int)) = false := by rw [hol, hjj]; simp only [decide_eq_false_iff_not]; omega
    refine ⟨out, w, ?_, hjj ▸ ho, hf, Below.refl B w⟩
    have eu : ref01_Stretch_l0 K (k + 1) = ref01_Stretch_l0_b K (ref01_Stretch_l0 K k) := rfl
    rw [eu]
    unfold ref01_Stretch_l0_b
    rw [hd, if_neg (by decide)]
  | succ d ih =>
    intro j k w out hj hkk hT hp hpb hs hsb ho hf h4 hB
    obtain ⟨k, rfl⟩ : ∃ q, k = q + 1 := ⟨k - 1, by omega⟩
    have hol : out.len = j * szH h := by rw [ho.len, ints_length, strO_len hk]
    have hjl := hc3 j (by omega)
    have hd : decide (((out.len : Nat) : Int) < (n : Int)) = true := by rw [hol]; simp only [decide_eq_true_eq]; omega
    have ei : IntKind.i64.wrap (((j + 1 : Nat) : Int) + 1) = ((j + 1 + 1 : Nat) : Int) := by rw [w64 (by omega) (by omega)]; rfl
    have hssl : s.len = salt.length := by rw [hs.len, ints_length]
    obtain ⟨x1, w1, a1, l1, o1, u1, f1⟩ := apd_ok sliceB (Own.nil 5 w) hs (by show (0 + s.len) * 1 ≤ _; omega)
    rw [List.nil_append] at o1
    have a1 : apd prog 25 25 (.slice none 0 0) (.slice s.a s.len s.cap) w = some (x1, w1) := a1
    have u1' : Upd none_ w w1 := u1.mono fun k _ e => by cases e
    have hs1 := u1'.size
    have fx1 : ∀ k, x1.blk = some k → w.heap.size ≤ k := fun k hk => by
      rcases f1 with e | e
      · rw [e] at hk; cases hk
      · rw [e] at hk; have := Option.some.inj hk; omega
    have hx1 : x1.len = salt.length := by rw [o1.len, ints_length]
    obtain ⟨w2, b1, b2, u2, z2⟩ := bldS_ok sliceB (ints .u8 (bigB ((j + 1 : Nat) : Int) 4)) (fun v hv => by obtain ⟨x, _, rfl⟩ := List.mem_map.1 hv; rfl) (by rw [ints_length, bigB_len]; decide) (by rw [ints_length, bigB_len]; decide) w1
    have hb4 : (ints .u8 (bigB ((j + 1 : Nat) : Int) 4)).length = 4 := by rw [ints_length, bigB_len]
    rw [hb4] at b1 b2
    have b1 : bldS prog 25 4 #[(0, (.int .u8 (IntKind.u8.wrap (Int.fdiv ((j + 1 : Nat) : Int) (2 ^ 24))))), (1, (.int .u8 (IntKind.u8.wrap (Int.fdiv ((j + 1 : Nat) : Int) (2 ^ 16))))), (2, (.int .u8 (IntKind.u8.wrap (Int.fdiv ((j + 1 : Nat) : Int) (2 ^ 8))))), (3, (.int .u8 (IntKind.u8.wrap ((j + 1 : Nat) : Int))))] w1 = some (⟨some ⟨w1.heap.size, 0, none⟩, 4, 4⟩, w2) := by
      rw [bigB_4] at b1; exact b1
    have hs2 := u2.size
    obtain ⟨x3, w3, a3, l3, o3, u3, f3⟩ := apd_ok sliceB (o1.upd0 u2) (b2.src ints_one) (by rw [hx1]; show (salt.length + 4) * 1 ≤ _; omega)
    rw [← ints_append] at o3
    have q3 : Upd none_ w w3 := (u1'.and0 u2).trans' u3 fun k hk e => by have := fx1 k e; omega
    have hs3 := q3.size
    obtain ⟨r, w5, a5, o5, u5, f5⟩ := refCode_ok hK h (hT.upd0 q3) (hp.upd0 q3) hpi hpl (o3.src ints_one) (fun x hx => (List.mem_append.1 hx).elim (hsi x) (bigB_in _ 4 x)) (by rw [List.length_append, bigB_len]; omega)
    unfold codeOf at o5
    rw [if_pos hk] at o5
    have o5 : Own 5 w5 r (ints .u8 (strU C S h pass (salt ++ bigB ((j + 1 : Nat) : Int) 4) 0)) := o5
    have q5 := q3.and0 u5
    have hs5 := u5.size
    have hul := strU_len hk C S pass (salt ++ bigB ((j + 1 : Nat) : Int) 4) 0
    obtain ⟨sm, w6, a6, l6, o6, u6, f6⟩ := apd_ok sliceB (Own.nil 5 w5) (o5.src ints_one) (by rw [o5.len, ints_length, hul]; show (0 + szH h) * 1 ≤ _; omega)
    rw [List.nil_append] at o6
    have a6 : apd prog 25 25 (.slice none 0 0) (.slice r.a r.len r.cap) w5 = some (sm, w6) := a6
    have u6' : Upd none_ w5 w6 := u6.mono fun k _ e => by cases e
    have q6 := q5.and0 u6'
    have hs6 := u6'.size
    have fsm : ∀ k, sm.blk = some k → w5.heap.size ≤ k := fun k hk => by
      rcases f6 with e | e
      · rw [e] at hk; cases hk
      · rw [e] at hk; have := Option.some.inj hk; omega
    obtain ⟨w7, a7, o7, u7⟩ := refStretch_l1 hK hk (x := salt ++ bigB ((j + 1 : Nat) : Int) 4) (sp := sp) hpi hpl (B := w.heap.size) (by omega) (p2 := s) (p3 := out) (n := (n : Int)) (p12 := ((j + 1 : Nat) : Int)) (sum := sm) (fun k hk => by have := fsm k hk; omega) (m := m) (by omega)
      m 0 K w6 r (by omega) (by omega) (hT.upd0 q6) (hp.upd0 q6) (fun q hq hne => by have := hpb q hq hne; omega) (o5.upd0 u6') o6
    have a7 : ref01_Stretch_l1 K K h sp s ((m + 1 : Nat) : Int) (n : Int) out ((j + 1 : Nat) : Int) r sm 1 w6 = _ := a7
    have hs7 := u7.size
    have q7 : Upd none_ w w7 := q6.trans' u7 fun k hk e => by have := fsm k e; omega
    have hfl := strF_len hk C S pass (salt ++ bigB ((j + 1 : Nat) : Int) 4) m
    obtain ⟨s8, w8, a8, l8, o8, u8, f8⟩ := apd_ok sliceB (ho.upd0 q7) (o7.src ints_one) (by rw [hol, o7.len, ints_length, hfl]; omega)
    rw [← ints_append] at o8
    have o8 : Own 5 w8 s8 (ints .u8 (strO C S h pass salt m (j + 1))) := o8
    have q8 : Upd (fun k => out.blk = some k) w w8 := (q7.mono (T := fun k => out.blk = some k) fun _ _ e => e.elim).trans' u8 fun _ _ e => e
    have bl : Below B w w8 := q8.below hB fun k hk e => by have := hf k e; omega
    have hs8 := q8.size
    obtain ⟨out', w', g1, g2, g3, g4⟩ := ih (j + 1) k w8 s8 (by omega) (by omega) (hT.upd q8 fun k hk e => by have := hf k e; omega)
      (src_upd hp q8 fun q hq hne2 e => by have := hf _ e; have := hpb q hq hne2; omega) hpb (src_upd hs q8 fun q hq hne2 e => by have := hf _ e; have := hsb q hq hne2; omega) hsb o8
      (fun k hk => by
        rcases f8 with f8 | f8
        · exact hf k (f8 ▸ hk)
        · rw [f8] at hk; have := Option.some.inj hk; omega) h4 (by omega)
    refine ⟨out', w', ?_, g2, g3, bl.trans g4⟩
    have eu : ref01_Stretch_l0 K (k + 1) = ref01_Stretch_l0_b K (ref01_Stretch_l0 K k) := rfl
    rw [eu]
    unfold ref01_Stretch_l0_b
    rw [hd, if_pos rfl, a1, bnd_ok, b1, bnd_ok]
    dsimp only
    rw [a3, bnd_ok, a5, bnd_ok]
    dsimp only
    rw [a6, bnd_ok, a7, bnd_ok, a8, bnd_ok, ei, g1]

theorem src_lt {w : World} {s : Sl} {xs : List Int} (hs : Src w s (ints .u8 xs)) : ∀ q, s.a = some q → ints .u8 xs ≠ [] → q.block < w.heap.size := by
  intro q hq hne
  rcases hs.rd with ⟨e, _⟩ | ⟨p, e, hr⟩
  · rw [e] at hq; cases hq
  · rw [e] at hq; cases hq; exact hr.lt hne

theorem refStretch_ok {K : Nat} (hK : 18446744073709551616 ≤ K) (h : Int) {C S pass salt : List Int} {w : World} (T : TabsR w C S) {sp ss : Sl} (hp : Src w sp (ints .u8 pass)) (hpi : ∀ x ∈ pass, InK .u8 x) (hs : Src w ss (ints .u8 salt)) (hsi : ∀ x ∈ salt, InK .u8 x) {t n : Int} (he : strErr h pass.length salt.length t n = 0) :
    ∃ s' w', ref01_Stretch K h sp ss t n w = some ((s', ()), w') ∧ Vw 5 w' s' (ints .u8 (strOf C S h pass salt t n)) ∧ Fresh w.heap.size s' ∧ Upd none_ w w' := by
  have h4 := T.lt
  unfold strOf
  rw [if_pos he]
  obtain ⟨hk, hl1, hl2, ⟨m, rfl, hm⟩, q, rfl, hq0, hq1⟩ := strErr_zero he
  rw [Int.toNat_natCast]
  have em : (((m + 1 : Nat) : Int) - 1).toNat = m := by omega
  rw [em]
  obtain ⟨hsz, hs28, hs64⟩ := szH_ok hk
  obtain ⟨hc1, hc2, hc3⟩ := cnt_ok hk hq0
  have hcl := cnt_le hk hq1
  obtain ⟨out, w5, h5, o5, f5, bl5⟩ := refStretch_l0 hK hk (C := C) (S := S) (pass := pass) (salt := salt) (sp := sp) (s := ss) hpi (by omega) hsi (by omega) hq0 hq1 (m := m) hm (B := w.heap.size) (cnt h q) 0 K w ⟨none, 0, 0⟩ (by omega) (by omega) T hp (src_lt hp) hs (src_lt hs) (Own.nil 5 w) (fun k hk => by cases hk) h4 (Nat.le_refl _)
  have h5 : ref01_Stretch_l0 K K h sp ss ((m + 1 : Nat) : Int) (q : Int) ⟨none, 0, 0⟩ 1 w = _ := h5
  have hol : out.len = cnt h q * szH h := by rw [o5.len, ints_length, strO_len hk]
  have hcap := o5.cap
  have hne : ints .u8 (strO C S h pass salt m (cnt h q)) ≠ [] := fun e => by
    have := congrArg List.length e
    rw [ints_length, strO_len hk] at this
    simp at this; omega
  have hv := o5.front hne (n := q) (c := out.cap) (by omega) (by omega) (Nat.le_refl _)
  rw [ints_take] at hv
  have esl : sla out.a 0 out.cap 1 = out.a := sla_zero ..
  refine ⟨⟨out.a, q, out.cap⟩, w5, ?_, hv, fun k hk => f5 k hk, Upd.of_below bl5⟩
  unfold ref01_Stretch
  rw [h5, bnd_ok]
  dsimp only
  rw [if_pos (by omega), Int.toNat_natCast, esl, Nat.sub_zero, Nat.sub_zero]

end Go.Sh

/- DigestStretches, the law. -/
set_option linter.unusedVariables false
namespace Go.Sh
open Go.Fw Go.Sha Go.RowKit Go.Proofs.Tryd Go.Deep

theorem stretch_small {K : Nat} {h : Int} {p s : Nat} {t n : Int} (w : World) :
    ∃ a, law01_DigestStretches_s0 K h t n (strErr h p s t n) w = some ((a, ()), w) ∧ ∃ t' n', law01_DigestStretches_s1 K t n a w = some ((t', n', ()), w) ∧ strErr h p s t' n' = strErr h p s t n := by
  by_cases he : strErr h p s t n = 0
  · obtain ⟨hk, hl1, hl2, ⟨m, rfl, hm⟩, q, rfl, hq0, hq1⟩ := strErr_zero he
    have key : ∃ t' n', law01_DigestStretches_s1 K ((m + 1 : Nat) : Int) (q : Int) true w = some ((t', n', ()), w) ∧ strErr h p s t' n' = 0 := by
      have e1 : IntKind.i64.wrap (1 + (Int.tmod ((m + 1 : Nat) : Int) 4)) = ((1 + (m + 1) % 4 : Nat) : Int) := by
        rw [show (4 : Int) = ((4 : Nat) : Int) from rfl, tmod_nat, w64 (by omega) (by omega)]; omega
      have e2 : IntKind.i64.wrap (1 + (Int.tmod (q : Int) 200)) = ((1 + q % 200 : Nat) : Int) := by
        rw [show (200 : Int) = ((200 : Nat) : Int) from rfl, tmod_nat, w64 (by omega) (by omega)]; omega
      refine ⟨_, _, ?_, strErr_0 hk (by omega) (t := ((1 + (m + 1) % 4 : Nat) : Int)) (n := ((1 + q % 200 : Nat) : Int)) (by omega) ?_⟩
      · unfold law01_DigestStretches_s1
        rw [if_pos rfl, e1, e2]
      · rw [Int.toNat_natCast]
        have hc := cnt_le hk (n := 1 + q % 200) (by omega)
        have h1 : (1 + (m + 1) % 4) * cnt h (1 + q % 200) ≤ 4 * 65536 := Nat.mul_le_mul (by omega) hc
        have h2 : ((1 + (m + 1) % 4 : Nat) : Int) * ((cnt h (1 + q % 200) : Nat) : Int) = (((1 + (m + 1) % 4) * cnt h (1 + q % 200) : Nat) : Int) := by simp
        rw [h2]; omega
    have same : ∃ t' n', law01_DigestStretches_s1 K ((m + 1 : Nat) : Int) (q : Int) false w = some ((t', n', ()), w) ∧ strErr h p s t' n' = strErr h p s ((m + 1 : Nat) : Int) (q : Int) := by
      refine ⟨_, _, ?_, rfl⟩
      unfold law01_DigestStretches_s1
      rw [if_neg (by decide)]
    unfold law01_DigestStretches_s0
    rw [he, if_pos (by decide)]
    by_cases c : ((m + 1 : Nat) : Int) > 600
    · rw [decide_eq_true c, if_pos rfl]
      exact ⟨true, rfl, key⟩
    · rw [decide_eq_false c, if_neg (by decide), refSize_ok, Option.bind_some, Option.bind_some]
      dsimp only
      rw [if_pos (size_ne hk)]
      refine ⟨_, rfl, ?_⟩
      cases hd : decide (IntKind.i64.wrap (((m + 1 : Nat) : Int) * (IntKind.i64.wrap (Int.tdiv (IntKind.i64.wrap ((IntKind.i64.wrap ((q : Int) + sizeOfH h)) - 1)) (sizeOfH h)))) > 600) with
      | true => exact key
      | false => rw [← he]; exact same
  · refine ⟨false, ?_, t, n, ?_, rfl⟩
    · unfold law01_DigestStretches_s0
      rw [if_neg (by simpa using he)]
    · unfold law01_DigestStretches_s1
      rw [if_neg (by decide)]

theorem DigestStretches_ok {K : Nat} (hK : 18446744073709551616 ≤ K) {C S : List Int} {w : World} (T : TabsR w C S) {h turns n : Int} {pass salt info : Sl} {ps ss is : List Int} (hp : BytesIn w pass ps) (hs : BytesIn w salt ss) (hi : BytesIn w info is) :
    ∃ w', law01_DigestStretches K (deriveC h pass salt info turns n) w = some ((true, ()), w') ∧ Upd none_ w w' := by
  obtain ⟨w1, n1, b1, u1, z1⟩ := newB_ok (deriveC h pass salt info turns n) 42 w
  have l0 : ldI .i64 ⟨w.heap.size, 0, none⟩ w1 = some h := b1.ldI rfl
  have l1 : ldS ⟨w.heap.size, 1, none⟩ w1 = some pass := b1.ldS rfl
  have l2 : ldS ⟨w.heap.size, 2, none⟩ w1 = some salt := b1.ldS rfl
  have l4 : ldI .i64 ⟨w.heap.size, 4, none⟩ w1 = some turns := b1.ldI rfl
  have l5 : ldI .i64 ⟨w.heap.size, 5, none⟩ w1 = some n := b1.ldI rfl
  have hs1 := u1.size
  have hpl : pass.len = ps.length := by rw [hp.src.len, ints_length]
  have hsl : salt.len = ss.length := by rw [hs.src.len, ints_length]
  have hp3 := hp.len
  have hs3 := hs.len
  unfold law01_DigestStretches
  rw [n1, bnd_ok]
  simp only [add_lit, Nat.zero_add]
  rw [l0, Option.bind_some, l1, Option.bind_some, l2, Option.bind_some, l4, Option.bind_some, l5, Option.bind_some]
  have ew : IntKind.i64.wrap (((pass.len : Nat) : Int) + ((salt.len : Nat) : Int)) = ((ps.length + ss.length : Nat) : Int) := by rw [hpl, hsl, w64 (by omega) (by omega)]; rfl
  rw [ew]
  by_cases hc : ps.length + ss.length ≤ 65536
  case neg =>
    have hd : decide (((ps.length + ss.length : Nat) : Int) > 65536) = true := by simp only [decide_eq_true_eq]; omega
    rw [hd, if_pos rfl]
    exact ⟨w1, rfl, u1⟩
  have hd : decide (((ps.length + ss.length : Nat) : Int) > 65536) = false := by simp only [decide_eq_false_iff_not]; omega
  rw [hd, if_neg (by decide), hpl, hsl, refStretchError_ok, Option.bind_some]
  dsimp only
  obtain ⟨a, ha, t', n', ht, he⟩ := stretch_small (K := K) (h := h) (p := ps.length) (s := ss.length) (t := turns) (n := n) w1
  rw [ha, bnd_ok]
  dsimp only
  rw [ht, bnd_ok]
  dsimp only
  have px1 := hp.src.upd0 u1
  have sx1 := hs.src.upd0 u1
  obtain ⟨gx, cx, w2, j2, ox, hgx, u2⟩ := Bytes_ok hK px1 hp3
  have hs2 := u2.size
  obtain ⟨gy, cy, w3, j3, oy, hgy, u3⟩ := Bytes_ok hK (sx1.upd0 u2) hs3
  have hs3' := u3.size
  have hgx2 : gx < w2.heap.size := ox.lt (by simp [Sl.blk])
  have hgy2 : gy < w3.heap.size := oy.lt (by simp [Sl.blk])
  have ox3 := ox.upd0 u3
  have px : PartOk w3 (⟨some ⟨gx, 0, none⟩, ps.length, cx⟩, ps) := ⟨(marked_front ox3).src ints_one, hp.inn, hp3, fun q hq => by obtain rfl := Option.some.inj hq; show gx < _; omega⟩
  have py : PartOk w3 (⟨some ⟨gy, 0, none⟩, ss.length, cy⟩, ss) := ⟨(marked_front oy).src ints_one, hs.inn, hs3, fun q hq => by obtain rfl := Option.some.inj hq; show gy < _; omega⟩
  have up : ∀ {w w' : World} {p : Sl × List Int}, PartOk w p → Upd none_ w w' → PartOk w' p := fun hp u => ⟨hp.1.upd0 u, hp.2.1, hp.2.2.1, fun q hq => by have := hp.2.2.2 q hq; have := u.size; omega⟩
  have T3 := ((T.upd0 u1).upd0 u2).upd0 u3
  obtain ⟨x, w4, j4, vx, fx, u4⟩ := Stretch_any hK h T3.to px py t' n'
  have hs4 := u4.size
  obtain ⟨y, w5, j5, vy, fy, u5⟩ := Stretch_any hK h (T3.upd0 u4).to (up px u4) (up py u4) t' n'
  have hs5 := u5.size
  rw [he] at j4 j5
  have q35 := u4.and0 u5
  have q13 := u2.and0 u3
  obtain ⟨w6, k6, u6⟩ := WholeBytes_ok hK (ox3.upd0 q35) ((px1.upd0 q13).upd0 q35).rds hp3
  obtain ⟨w7, k7, u7⟩ := WholeBytes_ok hK ((oy.upd0 q35).upd0 u6) (((sx1.upd0 q13).upd0 q35).upd0 u6).rds hs3
  rw [decide_eq_true rfl] at k6 k7
  have hs6 := u6.size
  have hs7 := u7.size
  have q37 := (q35.and0 u6).and0 u7
  have hs2' : law01_DigestStretches_s2 K pass salt (strErr h ps.length ss.length turns n) ⟨some ⟨gx, 0, none⟩, ps.length, cx⟩ ⟨some ⟨gy, 0, none⟩, ss.length, cy⟩ (strErr h ps.length ss.length turns n) (strErr h ps.length ss.length turns n) w5 = some ((false, ()), w7) := by
    unfold law01_DigestStretches_s2 law01_num
    rw [Option.bind_some]
    dsimp only
    rw [bne_self_eq_false, if_neg (by decide), Option.bind_some, bne_self_eq_false, if_neg (by decide), k6, bnd_ok]
    dsimp only
    rw [if_neg (by decide), k7, bnd_ok]
    rfl
  have hr : ∃ r w8, law01_DigestStretches_s3 K h pass salt t' n' ⟨none, 0, 0⟩ (strErr h ps.length ss.length turns n == 0) w7 = some ((r, ()), w8) ∧ Vw 5 w8 r (ints .u8 (strOf C S h ps ss t' n')) ∧ Fresh w7.heap.size r ∧ Upd none_ w7 w8 := by
    by_cases e0 : strErr h ps.length ss.length turns n = 0
    · obtain ⟨r, w8, h8, v8, f8, u8⟩ := refStretch_ok hK h (T3.upd0 q37) ((px1.upd0 q13).upd0 q37) hp.inn ((sx1.upd0 q13).upd0 q37) hs.inn (t := t') (n := n') (by rw [he, e0])
      refine ⟨r, w8, ?_, v8, f8, u8⟩
      unfold law01_DigestStretches_s3
      rw [e0, if_pos (by decide), h8, bnd_ok]
    · refine ⟨⟨none, 0, 0⟩, w7, ?_, ?_, (fun k hk => by cases hk), Upd.refl _ _⟩
      · unfold law01_DigestStretches_s3
        rw [if_neg (by simpa using e0)]
      · unfold strOf
        rw [he, if_neg e0]; exact Vw.nil 5 w7
  obtain ⟨r, w8, j8, vr, fr, u8⟩ := hr
  have hs8 := u8.size
  have hl := strOf_len C S h ps ss t' n'
  have vx8 := vx.upd0 (((u5.and0 u6).and0 u7).and0 u8)
  have vy8 := vy.upd0 ((u6.and0 u7).and0 u8)
  obtain ⟨w9, k9, u9⟩ := SameBytes_ok hK vx8.rd vr.rd (by omega)
  obtain ⟨w10, k10, u10⟩ := SameBytes_ok hK (vy8.upd0 u9).rd (vr.upd0 u9).rd (by omega)
  rw [decide_eq_true rfl] at k9 k10
  have hs9 := u9.size
  have hs10 := u10.size
  have hs4' : law01_DigestStretches_s4 K x y r w8 = some ((false, ()), w10) := by
    unfold law01_DigestStretches_s4
    rw [k9, bnd_ok]
    dsimp only
    rw [if_neg (by decide), k10, bnd_ok]
    rfl
  obtain ⟨w11, k11, u11⟩ := SpoilBytes_ok hK ((vx8.upd0 u9).upd0 u10) (by omega)
  have hab : ∀ k, x.blk = some k → w3.heap.size ≤ k ∧ k < w4.heap.size := fun k hk => ⟨fx k hk, vx.lt hk⟩
  have vy11 := ((vy8.upd0 u9).upd0 u10).upd u11 fun k hk e => by have := hab k e; have := fy k hk; omega
  have vr11 := ((vr.upd0 u9).upd0 u10).upd u11 fun k hk e => by have := hab k e; have := fr k hk; omega
  obtain ⟨w12, k12, u12⟩ := SameBytes_ok hK vy11.rd vr11.rd (by omega)
  rw [decide_eq_true rfl] at k12
  have q10 : Upd none_ w w10 := (u1.and0 q13).and0 (((q37.and0 u8).and0 u9).and0 u10)
  refine ⟨w12, ?_, (q10.trans' u11 fun k hk e => by have := hab k e; omega).and0 u12⟩
  rw [j2, bnd_ok, j3, bnd_ok]
  dsimp only
  rw [j4, bnd_ok, j5, bnd_ok]
  dsimp only
  rw [hs2', bnd_ok]
  dsimp only
  rw [if_neg (by decide), j8, bnd_ok]
  dsimp only
  rw [hs4', bnd_ok]
  dsimp only
  rw [if_neg (by decide), k11, bnd_ok, k12, bnd_ok]

end Go.Sh

/- DigestPrefixes: fewer bytes begin more. -/
set_option linter.unusedVariables false
namespace Go.Sh
open Go.Fw Go.Sha Go.RowKit Go.Proofs.Tryd Go.Deep

theorem known_ok (h : Int) : law01_known h = some (known h, ()) := by
  unfold law01_known known
  by_cases h1 : h = 224
  · subst h1; rfl
  by_cases h2 : h = 256
  · subst h2; rfl
  by_cases h3 : h = 384
  · subst h3; rfl
  have e1 : (h == 224) = false := by simpa using h1
  have e2 : (h == 256) = false := by simpa using h2
  have e3 : (h == 384) = false := by simpa using h3
  rw [e1, e2, e3]
  rfl

theorem strO_pre (C S : List Int) (h : Int) (pass salt : List Int) (m j : Nat) : ∀ d, ∃ r, strO C S h pass salt m (j + d) = strO C S h pass salt m j ++ r
  | 0 => ⟨[], by simp⟩
  | d + 1 => by
    obtain ⟨r, hr⟩ := strO_pre C S h pass salt m j d
    exact ⟨_, by rw [← Nat.add_assoc]; show strO C S h pass salt m (j + d) ++ _ = _; rw [hr, List.append_assoc]⟩
theorem expO_pre (C S : List Int) (h : Int) (prk info : List Int) (j : Nat) : ∀ d, ∃ r, expO C S h prk info (j + d) = expO C S h prk info j ++ r
  | 0 => ⟨[], by simp⟩
  | d + 1 => by
    obtain ⟨r, hr⟩ := expO_pre C S h prk info j d
    exact ⟨_, by rw [← Nat.add_assoc]; show expO C S h prk info (j + d) ++ _ = _; rw [hr, List.append_assoc]⟩

theorem cnt_mono {h : Int} {n m : Nat} (hnm : n ≤ m) : cnt h n ≤ cnt h m := Nat.div_le_div_right (by omega)

theorem strOf_take {C S pass salt : List Int} {h t : Int} {n m : Nat} (hn : 0 < n) (hnm : n ≤ m) (e1 : strErr h pass.length salt.length t (n : Int) = 0) (e2 : strErr h pass.length salt.length t (m : Int) = 0) :
    (strOf C S h pass salt t (m : Int)).take n = strOf C S h pass salt t (n : Int) ∧ (strOf C S h pass salt t (n : Int)).length = n := by
  obtain ⟨hk, _⟩ := strErr_zero e1
  obtain ⟨c1, _⟩ := cnt_ok hk hn
  unfold strOf
  rw [if_pos e1, if_pos e2, Int.toNat_natCast, Int.toNat_natCast]
  obtain ⟨r, hr⟩ := strO_pre C S h pass salt (t - 1).toNat (cnt h n) (cnt h m - cnt h n)
  have hl := strO_len hk C S pass salt (t - 1).toNat (cnt h n)
  rw [show cnt h n + (cnt h m - cnt h n) = cnt h m by have := cnt_mono (h := h) hnm; omega] at hr
  refine ⟨?_, by rw [List.length_take]; omega⟩
  rw [List.take_take, Nat.min_eq_left hnm, hr, List.take_append_of_le_length (by omega)]

theorem expOf_take {C S prk info : List Int} {h : Int} {n m : Nat} (hn : 0 < n) (hnm : n ≤ m) (e1 : expErr h prk.length info.length (n : Int) = 0) (e2 : expErr h prk.length info.length (m : Int) = 0) :
    (expOf C S h prk info (m : Int)).take n = expOf C S h prk info (n : Int) ∧ (expOf C S h prk info (n : Int)).length = n := by
  obtain ⟨hk, _⟩ := expErr_zero e1
  obtain ⟨c1, _⟩ := cnt_ok hk hn
  unfold expOf
  rw [if_pos e1, if_pos e2, Int.toNat_natCast, Int.toNat_natCast]
  obtain ⟨r, hr⟩ := expO_pre C S h prk info (cnt h n) (cnt h m - cnt h n)
  have hl := expO_len hk C S prk info (cnt h n)
  rw [show cnt h n + (cnt h m - cnt h n) = cnt h m by have := cnt_mono (h := h) hnm; omega] at hr
  refine ⟨?_, by rw [List.length_take]; omega⟩
  rw [List.take_take, Nat.min_eq_left hnm, hr, List.take_append_of_le_length (by omega)]

theorem hash8 {h : Int} (hk : known h = true) : IntKind.i64.wrap (Int.tdiv h 8) = ((szH h : Nat) : Int) := by
  rcases known_cases hk with e | e | e | e <;> subst e <;> rfl

theorem DigestPrefixes_ok {K : Nat} (hK : 18446744073709551616 ≤ K) {C S : List Int} {w : World} (T : Tabs w C S) {h turns n more : Int} {pass salt info : Sl} {ps ss is : List Int} (hp : BytesIn w pass ps) (hs : BytesIn w salt ss) (hpb : ∀ q, pass.a = some q → q.block < w.heap.size) (hsb : ∀ q, salt.a = some q → q.block < w.heap.size) :
    ∃ w', law01_DigestPrefixes K (deriveC h pass salt info turns n) more w = some ((true, ()), w') ∧ Upd none_ w w' := by
  obtain ⟨w1, n1, b1, u1, z1⟩ := newB_ok (deriveC h pass salt info turns n) 42 w
  have l0 : ldI .i64 ⟨w.heap.size, 0, none⟩ w1 = some h := b1.ldI rfl
  have l1 : ldS ⟨w.heap.size, 1, none⟩ w1 = some pass := b1.ldS rfl
  have l2 : ldS ⟨w.heap.size, 2, none⟩ w1 = some salt := b1.ldS rfl
  have l4 : ldI .i64 ⟨w.heap.size, 4, none⟩ w1 = some turns := b1.ldI rfl
  have l5 : ldI .i64 ⟨w.heap.size, 5, none⟩ w1 = some n := b1.ldI rfl
  have hpl : pass.len = ps.length := by rw [hp.src.len, ints_length]
  have hsl : salt.len = ss.length := by rw [hs.src.len, ints_length]
  have hp3 := hp.len
  have hs3 := hs.len
  unfold law01_DigestPrefixes
  rw [n1, bnd_ok]
  simp only [add_lit, Nat.zero_add]
  rw [l0, Option.bind_some, l1, Option.bind_some, l2, Option.bind_some, l4, Option.bind_some, l5, Option.bind_some]
  have ew : IntKind.i64.wrap (((pass.len : Nat) : Int) + ((salt.len : Nat) : Int)) = ((ps.length + ss.length : Nat) : Int) := by rw [hpl, hsl, w64 (by omega) (by omega)]; rfl
  unfold law01_DigestPrefixes_s0
  rw [known_ok, Option.bind_some, ew]
  dsimp only
  cases hk : known h with
  | false =>
    rw [if_pos (show (!false) = true from rfl), bnd_ok]
    exact ⟨w1, rfl, u1⟩
  | true =>
  rw [if_neg (show ¬ (!true) = true by decide)]
  by_cases c1 : turns < 1
  · rw [decide_eq_true c1, if_pos rfl, bnd_ok]; exact ⟨w1, rfl, u1⟩
  rw [decide_eq_false c1, if_neg (by decide)]
  by_cases c2 : turns > 20
  · rw [decide_eq_true c2, if_pos rfl, bnd_ok]; exact ⟨w1, rfl, u1⟩
  rw [decide_eq_false c2, if_neg (by decide)]
  by_cases c3 : n < 1
  · rw [decide_eq_true c3, if_pos rfl, bnd_ok]; exact ⟨w1, rfl, u1⟩
  rw [decide_eq_false c3, if_neg (by decide)]
  by_cases c4 : n > 300
  · rw [decide_eq_true c4, if_pos rfl, bnd_ok]; exact ⟨w1, rfl, u1⟩
  rw [decide_eq_false c4, if_neg (by decide)]
  by_cases c5 : more < 0
  · rw [decide_eq_true c5, if_pos rfl, bnd_ok]; exact ⟨w1, rfl, u1⟩
  rw [decide_eq_false c5, if_neg (by decide)]
  by_cases c6 : more > 300
  · rw [decide_eq_true c6, if_pos rfl, bnd_ok]; exact ⟨w1, rfl, u1⟩
  rw [decide_eq_false c6, if_neg (by decide), bnd_ok]
  dsimp only
  by_cases c7 : ((ps.length + ss.length : Nat) : Int) > 65536
  · rw [decide_eq_true c7, if_pos rfl]; exact ⟨w1, rfl, u1⟩
  rw [decide_eq_false c7, if_neg (by decide)]
  obtain ⟨nn, rfl⟩ : ∃ q : Nat, n = (q : Int) := ⟨n.toNat, by omega⟩
  obtain ⟨mm, rfl⟩ : ∃ q : Nat, more = (q : Int) := ⟨more.toNat, by omega⟩
  have enm : IntKind.i64.wrap ((nn : Int) + (mm : Int)) = ((nn + mm : Nat) : Int) := by rw [w64 (by omega) (by omega)]; rfl
  rw [enm]
  obtain ⟨hsz, h28, h64⟩ := szH_ok hk
  have hse : ∀ q : Nat, 0 < q → q ≤ 600 → strErr h ps.length ss.length turns (q : Int) = 0 := fun q h1 h2 => by
    refine strErr_0 hk (by omega) (by omega) ?_
    rw [Int.toNat_natCast]
    have hc := cnt_le hk (n := q) (by omega)
    obtain ⟨t, rfl⟩ : ∃ t : Nat, turns = (t : Int) := ⟨turns.toNat, by omega⟩
    have h1 : t * cnt h q ≤ 20 * 65536 := Nat.mul_le_mul (by omega) hc
    have h2 : (t : Int) * ((cnt h q : Nat) : Int) = ((t * cnt h q : Nat) : Int) := by simp
    rw [h2]; omega
  have se1 := hse nn (by omega) (by omega)
  have se2 := hse (nn + mm) (by omega) (by omega)
  have pp := (hp.part hpb).up u1
  have sp := (hs.part hsb).up u1
  have T1 := T.upd0 u1
  obtain ⟨a, w2, j2, va, fa, u2⟩ := Stretch_any hK h T1 pp sp turns (nn : Int)
  obtain ⟨b, w3, j3, vb, fb, u3⟩ := Stretch_any hK h (T1.upd0 u2) (pp.up u2) (sp.up u2) turns ((nn + mm : Nat) : Int)
  have se1' : strErr h (pass, ps).2.length (salt, ss).2.length turns (nn : Int) = 0 := se1
  rw [se1] at j2
  rw [se2] at j3
  obtain ⟨t1, t2⟩ := strOf_take (C := C) (S := S) (by omega) (show nn ≤ nn + mm by omega) se1 se2
  obtain ⟨_, t3⟩ := strOf_take (C := C) (S := S) (by omega) (Nat.le_refl (nn + mm)) se2 se2
  have hal : a.len = nn := by rw [va.len, ints_length, t2]
  have hbl : b.len = nn + mm := by rw [vb.len, ints_length, t3]
  have hbc := (vb.src ints_one).cap
  have hbr := vb.rd.sub (lo := 0) (hi := nn) (Nat.zero_le _) (by rw [t3]; omega)
  rw [List.drop_zero, t1] at hbr
  obtain ⟨w4, k4, u4⟩ := SameBytes_ok hK (va.upd0 u3).rd hbr (by rw [t2]; omega)
  rw [decide_eq_true rfl] at k4
  have hs1' : law01_DigestPrefixes_s1 K (mm : Int) (nn : Int) a 0 b 0 w3 = some ((false, ()), w4) := by
    unfold law01_DigestPrefixes_s1 law01_num
    rw [Option.bind_some]
    dsimp only
    rw [if_neg (by decide), Option.bind_some, if_neg (by decide), hal, bne_self_eq_false, if_neg (by decide), enm, hbl, bne_self_eq_false, if_neg (by decide), if_pos (by omega), Int.toNat_natCast, k4, bnd_ok]
    rfl
  have q14 := (u2.and0 u3).and0 u4
  obtain ⟨w5, j5, P5, u5⟩ := one_part (pp.up q14).1 hp.inn hp3 (pp.up q14).2.2.2
  have ek : ([ps] : List (List Int)).flatten = ps := by simp
  obtain ⟨k, w6, j6, vk, fk, u6⟩ := Code_any hK h ((T1.upd0 q14).upd0 u5) (sp.up (q14.and0 u5)).1 hs.inn (show ss.length ≤ 33554432 by omega) (sp.up (q14.and0 u5)).2.2.2 P5 (fun k hk => hk) (by rw [ek]; omega)
  rw [ek] at vk
  have j6 : digest_Code K h salt ⟨some ⟨w4.heap.size, 0, none⟩, 1, 1⟩ w5 = some ((k, (if known h = true then 0 else 10), ()), w6) := j6
  rw [hk, if_pos rfl] at j6
  have hcm : codeOf C S h ss ps = macOf C S h ss ps := by unfold codeOf; rw [if_pos hk]
  have vk : Vw 5 w6 k (ints .u8 (macOf C S h ss ps)) := by
    have vk : Vw 5 w6 k (ints .u8 (codeOf C S h ss ps)) := vk
    rw [hcm] at vk; exact vk
  have hml := macOf_size hk C S ss ps
  have hkl : k.len = szH h := by rw [vk.len, ints_length, hml]
  have hs2' : law01_DigestPrefixes_s2 K h 0 k w6 = some ((false, ()), w6) := by
    unfold law01_DigestPrefixes_s2 law01_num
    rw [Option.bind_some]
    dsimp only
    rw [if_neg (by decide), hkl, hash8 hk, bne_self_eq_false]
  have q16 := (q14.and0 u5).and0 u6
  have pk : PartOk w6 (k, macOf C S h ss ps) := ⟨vk.src ints_one, macOf_in C S h ss ps, by show (macOf C S h ss ps).length ≤ _; omega, lt_of_blk fun q hq => vk.lt hq⟩
  have hee : ∀ q : Nat, 0 < q → q ≤ 600 → expErr h (macOf C S h ss ps).length ss.length (q : Int) = 0 := fun q h1 h2 => by
    refine expErr_0 hk (by rw [hml, hsz]; omega) (by omega) ?_
    rw [hsz]; omega
  have ee1 := hee nn (by omega) (by omega)
  have ee2 := hee (nn + mm) (by omega) (by omega)
  obtain ⟨x, w7, j7, vx, fx, u7⟩ := Expand_any hK h (T1.upd0 q16) pk (sp.up q16) (nn : Int)
  obtain ⟨y, w8, j8, vy, fy, u8⟩ := Expand_any hK h ((T1.upd0 q16).upd0 u7) (pk.up u7) ((sp.up q16).up u7) ((nn + mm : Nat) : Int)
  have j7 : digest_Expand K h k salt (nn : Int) w6 = some ((x, expErr h (macOf C S h ss ps).length ss.length (nn : Int), ()), w7) := j7
  have j8 : digest_Expand K h k salt ((nn + mm : Nat) : Int) w7 = some ((y, expErr h (macOf C S h ss ps).length ss.length ((nn + mm : Nat) : Int), ()), w8) := j8
  rw [ee1] at j7
  rw [ee2] at j8
  obtain ⟨r1, r2⟩ := expOf_take (C := C) (S := S) (by omega) (show nn ≤ nn + mm by omega) ee1 ee2
  obtain ⟨_, r3⟩ := expOf_take (C := C) (S := S) (by omega) (Nat.le_refl (nn + mm)) ee2 ee2
  have hxl : x.len = nn := by rw [vx.len, ints_length]; exact r2
  have hyl : y.len = nn + mm := by rw [vy.len, ints_length]; exact r3
  have hyc := (vy.src ints_one).cap
  have vy : Vw 5 w8 y (ints .u8 (expOf C S h (macOf C S h ss ps) ss ((nn + mm : Nat) : Int))) := vy
  have vx : Vw 5 w7 x (ints .u8 (expOf C S h (macOf C S h ss ps) ss (nn : Int))) := vx
  have hyr := vy.rd.sub (lo := 0) (hi := nn) (Nat.zero_le _) (by rw [r3]; omega)
  rw [List.drop_zero, r1] at hyr
  obtain ⟨w9, k9, u9⟩ := SameBytes_ok hK (vx.upd0 u8).rd hyr (by rw [r2]; omega)
  rw [decide_eq_true rfl] at k9
  refine ⟨w9, ?_, u1.and0 (((q16.and0 u7).and0 u8).and0 u9)⟩
  have j2 : digest_Stretch K h pass salt turns (nn : Int) w1 = _ := j2
  have j3 : digest_Stretch K h pass salt turns ((nn + mm : Nat) : Int) w2 = _ := j3
  rw [j2, bnd_ok, j3, bnd_ok]
  dsimp only
  rw [hs1', bnd_ok]
  dsimp only
  rw [if_neg (by decide)]
  unfold digest_Extract law01_num
  have j5 : bldS prog 24 1 #[(0, (.slice pass.a pass.len pass.cap))] w4 = _ := j5
  rw [j5, bnd_ok, j6, bnd_ok, bnd_ok]
  dsimp only
  rw [hs2', bnd_ok]
  dsimp only
  rw [if_neg (by decide), j7, bnd_ok, j8, bnd_ok, Option.bind_some]
  dsimp only
  rw [if_pos (by decide), Option.bind_some, if_pos (by decide), hxl, if_pos (by simp), hyl, if_pos (by simp), if_pos (by omega), Int.toNat_natCast, k9, bnd_ok]

end Go.Sh

/- DigestCuts: any parts, sums and copies between. -/
set_option linter.unusedVariables false
namespace Go.Sh
open Go.Fw Go.Sha Go.RowKit Go.Proofs.Tryd Go.Deep

theorem src_cut {w : World} {s : Sl} {vs : List Value} (h : Src w s vs) {n : Nat} (hn : n ≤ vs.length) : Src w ⟨s.a, n, s.cap⟩ (vs.take n) := by
  have hl := h.len
  have hc := h.cap
  refine ⟨by rw [List.length_take]; exact (Nat.min_eq_left hn).symm, by show n ≤ s.cap; omega, ?_, fun v hv => h.one v (List.mem_of_mem_take hv)⟩
  rcases h.rd with ⟨a1, a2, a3⟩ | ⟨p, a1, a2⟩
  · left; exact ⟨a1, a2, by rw [a3, List.take_nil]⟩
  · right
    refine ⟨p, a1, fun i v hv => ?_⟩
    rw [List.getElem?_take] at hv
    split at hv
    · exact a2 i v hv
    · cases hv

theorem src_mid {w : World} {s : Sl} {vs : List Value} (h : Src w s vs) {lo n : Nat} (h1 : lo + n ≤ vs.length) : Src w ⟨sla s.a lo s.cap 1, n, s.cap - lo⟩ ((vs.drop lo).take n) := by
  have := src_cut (src_sub h (lo := lo) (by omega)) (n := n) (by rw [List.length_drop]; omega)
  exact this

theorem part_mid {w : World} {s : Sl} {xs : List Int} (h : PartOk w (s, xs)) {lo n : Nat} (h1 : lo + n ≤ xs.length) : PartOk w (⟨sla s.a lo s.cap 1, n, s.cap - lo⟩, (xs.drop lo).take n) := by
  have hl := h.2.2.1
  have hl : xs.length ≤ 140737488351232 := hl
  refine ⟨?_, fun x hx => h.2.1 x (List.mem_of_mem_drop (List.mem_of_mem_take hx)), by show ((xs.drop lo).take n).length ≤ _; rw [List.length_take]; omega, fun q hq => ?_⟩
  · have := src_mid h.1 (lo := lo) (n := n) (by show _ ≤ (ints .u8 xs).length; rw [ints_length]; exact h1)
    have e : ((ints .u8 xs).drop lo).take n = ints .u8 ((xs.drop lo).take n) := by unfold ints; rw [List.map_take, List.map_drop]
    rw [← e]; exact this
  · obtain ⟨p, hp, e⟩ := sla_blk hq
    rw [e]; exact h.2.2.2 p hp

theorem rds_upd {κ : IntKind} {X : Nat → Prop} {w w' : World} {s : Sl} {zs : List Int} (h : RdS κ w s zs) (u : Upd X w w') (hn : ∀ p, s.a = some p → zs ≠ [] → ¬ X p.block) : RdS κ w' s zs :=
  ⟨h.len, h.cap, h.rd.imp id fun ⟨p, hp, hr⟩ => ⟨p, hp, hr.upd u fun hne => hn p hp (ints_ne hne)⟩⟩

theorem cuts_n {len at_ : Nat} {v : Int} (ha : at_ ≤ len) (hl : len ≤ 65536) {K : Nat} {b : Sl} (hb : b.len = len) (w : World) :
    ∃ (a : Bool) (n : Nat), law01_DigestCuts_s4 K b (at_ : Int) v w = some ((a, ()), w) ∧ law01_DigestCuts_s5 K b (at_ : Int) v a w = some (((n : Int), ()), w) ∧ at_ + n ≤ len := by
  have es : IntKind.i64.wrap (((b.len : Nat) : Int) - (at_ : Int)) = ((len - at_ : Nat) : Int) := by rw [hb, w64 (by omega) (by omega)]; omega
  have eh : IntKind.i64.wrap (Int.tdiv ((len - at_ : Nat) : Int) 2) = (((len - at_) / 2 : Nat) : Int) := by rw [show (2 : Int) = ((2 : Nat) : Int) from rfl, tdiv_nat, wn64 (by omega)]
  unfold law01_DigestCuts_s4
  by_cases c1 : v < 0
  · refine ⟨true, (len - at_) / 2, by rw [decide_eq_true c1, if_pos rfl], ?_, by omega⟩
    unfold law01_DigestCuts_s5
    rw [if_pos rfl, es, eh]
  · rw [decide_eq_false c1, if_neg (by decide), es]
    by_cases c2 : v > ((len - at_ : Nat) : Int)
    · refine ⟨true, (len - at_) / 2, by rw [decide_eq_true c2], ?_, by omega⟩
      unfold law01_DigestCuts_s5
      rw [if_pos rfl, es, eh]
    · refine ⟨false, v.toNat, by rw [decide_eq_false c2], ?_, by omega⟩
      unfold law01_DigestCuts_s5
      rw [if_neg (by decide), show ((v.toNat : Nat) : Int) = v by omega]

theorem cuts_l2 {K : Nat} (hK : 18446744073709551616 ≤ K) {h : Int} (hk : known h = true) {C S : List Int} {bytes cuts want code : Sl} {bs ks cz : List Int} (hbl : bs.length ≤ 65536) {B : Nat} (h4 : 4 ≤ B) :
    ∀ (d i k : Nat) (w : World) (g gm at_ : Nat), i + d = min cz.length 60 → d < k → Tabs w C S → StrmAt w g C S h (bs.take at_) → MacAt w gm C S h ks (bs.take at_) → g ≠ gm → B ≤ g → B ≤ gm → PartOk w (bytes, bs) → (∀ q, bytes.a = some q → q.block < B) → RdS .i64 w cuts cz → (∀ q, cuts.a = some q → cz ≠ [] → q.block < B) → at_ ≤ bs.length →
      ∃ w' g' gm' at', law01_DigestCuts_l2 K k h bytes cuts want code (some ⟨g, 0, none⟩) (some ⟨gm, 0, none⟩) (at_ : Int) (i : Int) w = some (.norm (some ⟨g', 0, none⟩, some ⟨gm', 0, none⟩, ((at' : Nat) : Int), ()), w') ∧ StrmAt w' g' C S h (bs.take at') ∧ MacAt w' gm' C S h ks (bs.take at') ∧ g' ≠ gm' ∧ B ≤ g' ∧ B ≤ gm' ∧ at' ≤ bs.length ∧ Below B w w' := by
  intro d
  induction d with
  | zero =>
    intro i k w g gm at_ hi hkk hT hs hm hgm hg hgm2 hb hbb hc hcb hat
    obtain ⟨k, rfl⟩ : ∃ q, k = q + 1 := ⟨k - 1, by omega⟩
    refine ⟨w, g, gm, at_, ?_, hs, hm, hgm, hg, hgm2, hat, Below.refl B w⟩
    have eu : law01_DigestCuts_l2 K (k + 1) = law01_DigestCuts_l2_b K (law01_DigestCuts_l2 K k) := rfl
    rw [eu]
    unfold law01_DigestCuts_l2_b law01_DigestCuts_s3
    by_cases c1 : i < cz.length
    · have hd : decide ((i : Int) < ((cuts.len : Nat) : Int)) = true := by rw [hc.len]; simp; omega
      have hd2 : decide ((i : Int) < 60) = false := by simp; omega
      rw [hd, if_pos rfl, hd2, bnd_ok]
      rfl
    · have hd : decide ((i : Int) < ((cuts.len : Nat) : Int)) = false := by rw [hc.len]; simp; omega
      rw [hd, if_neg (by decide), bnd_ok]
      rfl
  | succ d ih =>
    intro i k w g gm at_ hi hkk hT hs hm hgm hg hgm2 hb hbb hc hcb hat
    obtain ⟨k, rfl⟩ : ∃ q, k = q + 1 := ⟨k - 1, by omega⟩
    have hd : decide ((i : Int) < ((cuts.len : Nat) : Int)) = true := by rw [hc.len]; simp; omega
    have hd2 : decide ((i : Int) < 60) = true := by simp; omega
    have e1 : IntKind.i64.wrap ((i : Int) + 1) = ((i + 1 : Nat) : Int) := by rw [w64 (by omega) (by omega)]; rfl
    have hbL : bytes.len = bs.length := by have := hb.1.len; rw [ints_length] at this; exact this
    have hbc := hb.1.cap
    have hbc : bytes.len ≤ bytes.cap := hbc
    obtain ⟨p, hp, hpl⟩ := hc.ld
    have hp := hp (fun e => by rw [e] at hi; simp at hi)
    have lI := hpl i (by omega)
    obtain ⟨a, n, f4, f5, hn⟩ := cuts_n (K := K) (v := cz[i]'(by omega)) hat hbl hbL w
    have ean : IntKind.i64.wrap ((at_ : Int) + (n : Int)) = ((at_ + n : Nat) : Int) := by rw [w64 (by omega) (by omega)]; rfl
    have c1 : (0 : Int) ≤ ((at_ + n : Nat) : Int) ∧ ((at_ + n : Nat) : Int) ≤ ((bytes.cap : Nat) : Int) := by omega
    have c2 : (0 : Int) ≤ (at_ : Int) ∧ (at_ : Int) ≤ ((at_ + n : Nat) : Int) := by omega
    have pm := part_mid hb hn
    obtain ⟨gx, cx, w1, j1, ox, hgx, u1⟩ := Bytes_ok hK pm.1 pm.2.2.1
    have hxl : ((bs.drop at_).take n).length = n := by rw [List.length_take, List.length_drop]; omega
    rw [hxl] at j1 ox
    have hs1 := u1.size
    have hgx2 : gx < w1.heap.size := ox.lt (by simp [Sl.blk])
    have hsl := hs.lt
    have hml := hm.lt
    have ox' : Own 5 w1 ⟨some ⟨gx, 0, none⟩, ((bs.drop at_).take n).length + 70, cx⟩ (ints .u8 ((bs.drop at_).take n ++ marks)) := by rw [hxl]; exact ox
    have mf := marked_front ox'
    rw [hxl] at mf
    have px : PartOk w1 (⟨some ⟨gx, 0, none⟩, n, cx⟩, (bs.drop at_).take n) := ⟨mf.src ints_one, pm.2.1, by show ((bs.drop at_).take n).length ≤ _; omega, fun q hq => by obtain rfl := Option.some.inj hq; exact hgx2⟩
    have hxq : ∀ q, (⟨some ⟨gx, 0, none⟩, n, cx⟩ : Sl).a = some q → q.block ≠ g ∧ q.block ≠ gm := fun q hq => by obtain rfl := Option.some.inj hq; exact ⟨by show gx ≠ g; omega, by show gx ≠ gm; omega⟩
    obtain ⟨w2, j2, P2, u2⟩ := two_partQ (fun k => k ≠ g ∧ k ≠ gm) px hxq (nilPart w1) (fun q hq => by cases hq) (by omega)
    have hs2 := u2.size
    have efl : ([(bs.drop at_).take n, []] : List (List Int)).flatten = (bs.drop at_).take n := by simp
    have efl2 : ([[], (bs.drop at_).take n] : List (List Int)).flatten = (bs.drop at_).take n := by simp
    have etk : bs.take at_ ++ (bs.drop at_).take n = bs.take (at_ + n) := (List.take_add ..).symm
    have htl : (bs.take at_).length = at_ := by rw [List.length_take]; omega
    have q2 := u1.and0 u2
    obtain ⟨w3, j3, s3, u3⟩ := strm_write hK hk (hT.upd0 q2) (by omega) (hs.upd0 q2) (fun e => e.1 rfl) P2 (by rw [efl, htl, hxl]; omega)
    rw [efl, etk] at s3
    have hs3 := u3.size
    have px3 := (px.up u2).upd u3 fun q hq => (hxq q hq).1
    obtain ⟨w4, j4, P4, u4⟩ := two_partQ (fun k => k ≠ g ∧ k ≠ gm) (nilPart w3) (fun q hq => by cases hq) px3 hxq (by omega)
    have hs4 := u4.size
    have q3 : Upd (· = g) w w3 := (q2.mono (T := (· = g)) fun _ _ e => e.elim).trans' u3 fun _ _ e => e
    obtain ⟨w5, j5, m5, u5⟩ := MacWrite_ok hK hk ((hT.upd q3 fun k hk e => by omega).upd0 u4) (by omega) ((hm.upd q3 fun e => hgm e.symm).upd0 u4) (fun e => e.2 rfl) P4 (by rw [efl2, htl, hxl]; omega)
    rw [efl2, etk] at m5
    have hs5 := u5.size
    have hs6' : law01_DigestCuts_s6 K (some ⟨g, 0, none⟩) (some ⟨gm, 0, none⟩) ⟨some ⟨gx, 0, none⟩, n, cx⟩ w1 = some ((false, ()), w5) := by
      unfold law01_DigestCuts_s6 law01_num
      rw [j2, bnd_ok, j3, bnd_ok, Option.bind_some]
      dsimp only
      rw [if_neg (by decide), j4, bnd_ok, j5, bnd_ok, Option.bind_some]
      rfl
    have q5 : Upd (fun k => B ≤ k) w w5 := ((q3.mono (T := fun k => B ≤ k) fun k _ e => by omega).and0 u4).trans' (u5.mono (T := fun k => B ≤ k) fun k _ e => by omega) fun _ _ e => e
    have u15 : Upd (fun k => k = g ∨ k = gm) w1 w5 := (((u2.mono (T := fun k => k = g ∨ k = gm) fun _ _ e => e.elim).trans' (u3.mono (T := fun k => k = g ∨ k = gm) fun k _ e => .inl e) fun _ _ e => e).and0 u4).trans' (u5.mono (T := fun k => k = g ∨ k = gm) fun k _ e => .inr e) fun _ _ e => e
    have mf5 := mf.upd u15 fun k hk => by simp [Sl.blk] at hk; subst hk; omega
    obtain ⟨w6, j6, u6⟩ := SpoilBytes_ok hK mf5.vw (by omega)
    have u6' : Upd (· = gx) w5 w6 := u6.mono fun k _ e => by simp [Sl.blk] at e; exact e.symm
    have hs6 := u6'.size
    have q6 : Upd (fun k => B ≤ k) w w6 := q5.trans' (u6'.mono (T := fun k => B ≤ k) fun k _ e => by omega) fun _ _ e => e
    have s6 := ((s3.upd0 u4).upd u5 hgm).upd u6' (by omega)
    have m6 := m5.upd u6' (by omega)
    have hb6 := hb.upd q6 fun q hq e => by have := hbb q hq; omega
    have T6 := hT.upd q6 fun k hk e => by omega
    -- the digest of what is fed so far
    have p7 := part_mid hb6 (lo := 0) (n := at_ + n) (by omega)
    rw [List.drop_zero] at p7
    have p7 : PartOk w6 (⟨bytes.a, at_ + n, bytes.cap⟩, bs.take (at_ + n)) := by simpa using p7
    obtain ⟨w7, j7, P7, u7⟩ := one_partQ (fun k => k < w6.heap.size + 1) p7 (fun q hq => by have := p7.2.2.2 q hq; omega) (by omega)
    have j7 : bldS prog 24 1 #[(0, (.slice bytes.a (at_ + n) bytes.cap))] w6 = _ := j7
    have hs7 := u7.size
    have hz7 : w7.heap.size = w6.heap.size + 1 := by
      obtain ⟨_, c1, _, _, c4⟩ := bldS1_ok sliceSS (.slice bytes.a (at_ + n) bytes.cap) rfl w6
      obtain ⟨_, hw⟩ := Prod.mk.inj (Option.some.inj (c1.symm.trans j7))
      rw [← hw]; exact c4
    have ek : ([bs.take (at_ + n)] : List (List Int)).flatten = bs.take (at_ + n) := by simp
    have htn : (bs.take (at_ + n)).length = at_ + n := by rw [List.length_take]; omega
    obtain ⟨r, w8, j8, a8, u8⟩ := Sum_ok hK hk (T6.upd0 u7) P7 (fun k hk => by omega) (by rw [ek, htn]; omega)
    rw [ek] at a8
    have hs8 := u8.size
    have q68 := u7.and0 u8
    obtain ⟨x9, w9, j9, a9, u9⟩ := strm_sum hK hk (T6.upd0 q68) (s6.upd0 q68) (by rw [htn]; omega)
    have hdl := digestOf_len h C (firstH S h) (bs.take (at_ + n))
    obtain ⟨w10, j10, u10⟩ := SameBytes_ok hK a9.rd (a8.upd0 u9).rd (by omega)
    rw [decide_eq_true rfl] at j10
    have q610 := (q68.and0 u9).and0 u10
    have hs610 := q610.size
    have s10 := s6.upd0 q610
    have m10 := m6.upd0 q610
    obtain ⟨_, _, _, hcount⟩ := strm_ask hk s10
    rw [htn] at hcount
    have hs7' : law01_DigestCuts_s7 K (some ⟨g, 0, none⟩) ((at_ + n : Nat) : Int) r w8 = some ((false, ()), w10) := by
      unfold law01_DigestCuts_s7
      rw [j9, bnd_ok, j10, bnd_ok]
      dsimp only
      rw [if_neg (by decide), hcount, Option.bind_some]
      dsimp only
      rw [IntKind.wrap_u64, Int.emod_eq_of_lt (by omega) (by omega), bne_self_eq_false]
    have q10 : Upd (fun k => B ≤ k) w w10 := q6.and0 q610
    have bl10 : Below B w w10 := ⟨q10.os, q10.tape, q10.output, q10.size, fun k hk => q10.block k (by omega) (by omega)⟩
    have hb10 := hb.upd q10 fun q hq e => by have := hbb q hq; omega
    have T10 := hT.upd q10 fun k hk e => by omega
    have hc10 := rds_upd hc q10 fun q hq hne e => by have := hcb q hq hne; omega
    have eu : law01_DigestCuts_l2 K (k + 1) = law01_DigestCuts_l2_b K (law01_DigestCuts_l2 K k) := rfl
    have hstep : law01_DigestCuts_l2 K (k + 1) h bytes cuts want code (some ⟨g, 0, none⟩) (some ⟨gm, 0, none⟩) (at_ : Int) (i : Int) w =
        if ((Int.tmod (i : Int) 3) == 1) = true then (bnd (digest_Stream_Copy (some ⟨g, 0, none⟩) w10) fun r_63 w_64 =>
          bnd (digest_Mac_Copy (some ⟨gm, 0, none⟩) w_64) fun r_65 w_66 =>
          if r_63.1.isNone = true then (some (.ret (false, ()), w_66)) else (if r_65.1.isNone = true then (some (.ret (false, ()), w_66)) else (law01_DigestCuts_l2 K k h bytes cuts want code r_63.1 r_65.1 ((at_ + n : Nat) : Int) ((i + 1 : Nat) : Int) w_66))) else (law01_DigestCuts_l2 K k h bytes cuts want code (some ⟨g, 0, none⟩) (some ⟨gm, 0, none⟩) ((at_ + n : Nat) : Int) ((i + 1 : Nat) : Int) w10) := by
      have cI : (0 : Int) ≤ (i : Int) ∧ (i : Int) < ((cuts.len : Nat) : Int) := by rw [hc.len]; omega
      rw [eu]
      unfold law01_DigestCuts_l2_b law01_DigestCuts_s3
      rw [hd, if_pos rfl, hd2, bnd_ok]
      dsimp only
      rw [if_pos rfl, hp, Option.bind_some, if_pos cI, Int.toNat_natCast, Nat.mul_one, lI, Option.bind_some, f4, bnd_ok]
      dsimp only
      rw [f5, bnd_ok]
      dsimp only
      rw [ean, if_pos c1]
      simp only [Int.toNat_natCast, sla_zero, Nat.sub_zero, Nat.add_sub_cancel_left]
      rw [if_pos c2, j1, bnd_ok]
      dsimp only
      rw [hs6', bnd_ok]
      dsimp only
      rw [if_neg (by decide), j6, bnd_ok, if_pos c1, j7, bnd_ok, j8, bnd_ok]
      dsimp only
      rw [hs7', bnd_ok]
      dsimp only
      rw [if_neg (by decide), e1]
    by_cases c3 : ((Int.tmod (i : Int) 3) == 1) = true
    · obtain ⟨w11, g2, j11, s11, eg, u11⟩ := strm_copy s10
      obtain ⟨w12, gm2, j12, m12, egm, u12⟩ := mac_copy (m10.upd0 u11)
      have hs11 := u11.size
      have hs12 := u12.size
      have hg2 := s11.lt
      have q12 := u11.and0 u12
      obtain ⟨w', g', gm', at', r1, r2, r3, r4, r5, r6, r7, r8⟩ := ih (i + 1) k w12 g2 gm2 (at_ + n) (by omega) (by omega) (T10.upd0 q12) (s11.upd0 u12) m12 (by omega) (by omega) (by omega) (hb10.up q12) hbb (hc10.upd0 q12) hcb (by omega)
      refine ⟨w', g', gm', at', ?_, r2, r3, r4, r5, r6, r7, (bl10.trans (q12.below (by omega) fun _ _ => id)).trans r8⟩
      rw [hstep, if_pos c3, j11, bnd_ok, j12, bnd_ok]
      dsimp only
      rw [if_neg (by simp), if_neg (by simp), r1]
    · obtain ⟨w', g', gm', at', r1, r2, r3, r4, r5, r6, r7, r8⟩ := ih (i + 1) k w10 g gm (at_ + n) (by omega) (by omega) T10 s10 m10 hgm hg hgm2 hb10 hbb hc10 hcb (by omega)
      refine ⟨w', g', gm', at', ?_, r2, r3, r4, r5, r6, r7, bl10.trans r8⟩
      rw [hstep, if_neg c3, r1]

theorem DigestCuts_ok {K : Nat} (hK : 18446744073709551616 ≤ K) {C S : List Int} {w : World} (T : Tabs w C S) {h zeros : Int} {key bytes cuts : Sl} {ks bs cz : List Int} (hp : BytesIn w key ks) (hs : BytesIn w bytes bs) (hpb : ∀ q, key.a = some q → q.block < w.heap.size) (hsb : ∀ q, bytes.a = some q → q.block < w.heap.size) (hc : RdS .i64 w cuts cz) :
    ∃ w', law01_DigestCuts K (feedC h key bytes cuts zeros) w = some ((true, ()), w') ∧ Upd none_ w w' := by
  obtain ⟨w1, n1, b1, u1, z1⟩ := newB_ok (feedC h key bytes cuts zeros) 64 w
  have l0 : ldI .i64 ⟨w.heap.size, 0, none⟩ w1 = some h := b1.ldI rfl
  have l1 : ldS ⟨w.heap.size, 1, none⟩ w1 = some key := b1.ldS rfl
  have l2 : ldS ⟨w.heap.size, 2, none⟩ w1 = some bytes := b1.ldS rfl
  have l3 : ldS ⟨w.heap.size, 3, none⟩ w1 = some cuts := b1.ldS rfl
  have hkl : key.len = ks.length := by rw [hp.src.len, ints_length]
  have hbl : bytes.len = bs.length := by rw [hs.src.len, ints_length]
  unfold law01_DigestCuts
  rw [n1, bnd_ok]
  simp only [add_lit, Nat.zero_add]
  rw [l0, Option.bind_some, l1, Option.bind_some, l2, Option.bind_some, l3, Option.bind_some]
  unfold law01_DigestCuts_s0
  rw [known_ok, Option.bind_some]
  dsimp only
  cases hk : known h with
  | false =>
    rw [if_pos (show (!false) = true from rfl), bnd_ok]
    exact ⟨w1, rfl, u1⟩
  | true =>
  rw [if_neg (show ¬ (!true) = true by decide)]
  by_cases c1 : bs.length > 65536
  · have hd : decide (((bytes.len : Nat) : Int) > 65536) = true := by rw [hbl]; simp only [decide_eq_true_eq]; omega
    rw [hd, if_pos rfl, bnd_ok]; exact ⟨w1, rfl, u1⟩
  have hd : decide (((bytes.len : Nat) : Int) > 65536) = false := by rw [hbl]; simp only [decide_eq_false_iff_not]; omega
  rw [hd, if_neg (by decide), bnd_ok]
  dsimp only
  by_cases c2 : ks.length > 65536
  · have hd : decide (((key.len : Nat) : Int) > 65536) = true := by rw [hkl]; simp only [decide_eq_true_eq]; omega
    rw [hd, if_pos rfl]; exact ⟨w1, rfl, u1⟩
  have hd : decide (((key.len : Nat) : Int) > 65536) = false := by rw [hkl]; simp only [decide_eq_false_iff_not]; omega
  rw [hd, if_neg (by decide)]
  obtain ⟨hsz, h28, h64⟩ := szH_ok hk
  have h4 := T.lt
  have hs1 := u1.size
  have pk := (hp.part hpb).up u1
  have pb := (hs.part hsb).up u1
  have T1 := T.upd0 u1
  have ek : ([bs] : List (List Int)).flatten = bs := by simp
  obtain ⟨w2, j2, P2, u2⟩ := one_part pb.1 hs.inn hs.len pb.2.2.2
  have j2 : bldS prog 24 1 #[(0, (.slice bytes.a bytes.len bytes.cap))] w1 = _ := j2
  obtain ⟨a, w3, j3, aa, u3⟩ := Sum_ok hK hk (T1.upd0 u2) P2 (fun k hk => hk) (by rw [ek]; omega)
  rw [ek] at aa
  have q13 := u2.and0 u3
  have pb3 := pb.up q13
  obtain ⟨w4, j4, P4, u4⟩ := one_part pb3.1 hs.inn hs.len pb3.2.2.2
  have j4 : bldS prog 24 1 #[(0, (.slice bytes.a bytes.len bytes.cap))] w3 = _ := j4
  have q14 := q13.and0 u4
  obtain ⟨b, w5, j5, vb, fb, u5⟩ := Code_any hK h (T1.upd0 q14) (pk.up q14).1 hp.inn (show ks.length ≤ 33554432 by omega) (pk.up q14).2.2.2 P4 (fun k hk => hk) (by rw [ek]; omega)
  rw [ek] at vb
  have j5 : digest_Code K h key ⟨some ⟨w3.heap.size, 0, none⟩, 1, 1⟩ w4 = some ((b, (if known h = true then 0 else 10), ()), w5) := j5
  rw [hk, if_pos rfl] at j5
  have hcm : codeOf C S h ks bs = macOf C S h ks bs := by unfold codeOf; rw [if_pos hk]
  have vb : Vw 5 w5 b (ints .u8 (macOf C S h ks bs)) := by rw [← hcm]; exact vb
  have q15 := q14.and0 u5
  have hs2 := u2.size
  have hs3 := u3.size
  have hs4 := u4.size
  have hs5 := u5.size
  obtain ⟨w6, g, j6, s6, hg, u6⟩ := New_strm hK hk (T1.upd0 q15)
  have hs6 := u6.size
  have q16 := q15.and0 u6
  obtain ⟨w7, gm, j7, m7, hgm, u7⟩ := NewMac_ok hK hk (T1.upd0 q16) (pk.up q16).1 hp.inn (show ks.length ≤ 33554432 by omega) (pk.up q16).2.2.2
  have j7 : digest_NewMac K h key w6 = _ := j7
  have hs7 := u7.size
  have q17 := q16.and0 u7
  have hgl := s6.lt
  have hdl := digestOf_size hk C (firstH S h) bs
  have hml := macOf_size hk C S ks bs
  have hal : a.len = szH h := by rw [aa.len, hdl]
  have hbl2 : b.len = szH h := by rw [vb.len, ints_length, hml]
  have hs1' : law01_DigestCuts_s1 K h a 0 b 0 (some ⟨g, 0, none⟩) 0 (some ⟨gm, 0, none⟩) 0 w7 = some ((false, ()), w7) := by
    unfold law01_DigestCuts_s1 law01_num
    rw [Option.bind_some]
    dsimp only
    rw [if_neg (by decide), Option.bind_some, if_neg (by decide), Option.bind_some, if_neg (by decide), Option.bind_some, if_neg (by decide), if_neg (by simp), if_neg (by simp), hal, hash8 hk, bne_self_eq_false, if_neg (by decide), hbl2, bne_self_eq_false]
  have q07 := u1.and0 q17
  have hcb : ∀ q, cuts.a = some q → cz ≠ [] → q.block < w5.heap.size := fun q hq hne => by
    rcases hc.rd with e | ⟨p, e, hr⟩
    · exact absurd e hne
    · rw [e] at hq; cases hq
      have := hr.lt (fun e => hne (by cases hz : cz with | nil => rfl | cons y r => rw [hz] at e; cases e))
      omega
  obtain ⟨w8, g', gm', at', j8, s8, m8, hne, hg', hgm', hat, bl8⟩ := cuts_l2 hK hk (bytes := bytes) (cuts := cuts) (want := a) (code := b) (cz := cz) (ks := ks) (bs := bs) (by omega) (B := w5.heap.size) (by omega) (min cz.length 60) 0 K w7 g gm 0 (by omega) (by omega) (T1.upd0 q17) (by rw [List.take_zero]; exact s6.upd0 u7) (by rw [List.take_zero]; exact m7) (by omega) hg (by omega) (pb.up q17) (fun q hq => by have := pb.2.2.2 q hq; omega) (hc.upd0 q07) hcb (Nat.zero_le _)
  have j8 : law01_DigestCuts_l2 K K h bytes cuts a b (some ⟨g, 0, none⟩) (some ⟨gm, 0, none⟩) 0 0 w7 = _ := j8
  have hs8 := bl8.size
  have u8 : Upd (fun k => w5.heap.size ≤ k) w7 w8 := upd_of_below bl8
  have T8 := (T1.upd0 q17).upd u8 fun k hk e => by omega
  have pb8 := (pb.up q17).upd u8 fun q hq e => by have := pb.2.2.2 q hq; omega
  have hgl8 := s8.lt
  have hml8 := m8.lt
  -- the rest
  have prest : ∀ {w' : World}, PartOk w' (bytes, bs) → PartOk w' (⟨sla bytes.a at' bytes.cap 1, bytes.len - at', bytes.cap - at'⟩, bs.drop at') := fun hb => by
    have := part_mid hb (lo := at') (n := bs.length - at') (by omega)
    rw [List.take_of_length_le (by rw [List.length_drop]; exact Nat.le_refl _), ← hbl] at this
    exact this
  have pbq : ∀ q, (⟨sla bytes.a at' bytes.cap 1, bytes.len - at', bytes.cap - at'⟩ : Sl).a = some q → q.block ≠ g' ∧ q.block ≠ gm' := fun q hq => by
    obtain ⟨p, hp2, e⟩ := sla_blk hq
    have := pb.2.2.2 p hp2
    omega
  obtain ⟨w9, j9, P9, u9⟩ := one_partQ (fun k => k ≠ g' ∧ k ≠ gm') (prest pb8) pbq (by omega)
  have hs9 := u9.size
  have ekd : ([bs.drop at'] : List (List Int)).flatten = bs.drop at' := by simp
  have htl : (bs.take at').length = at' := by rw [List.length_take]; omega
  have hdr : (bs.drop at').length = bs.length - at' := List.length_drop ..
  obtain ⟨w10, j10, s10, u10⟩ := strm_write hK hk (T8.upd0 u9) (by omega) (s8.upd0 u9) (fun e => e.1 rfl) P9 (by rw [ekd, htl, hdr]; omega)
  rw [ekd, List.take_append_drop] at s10
  have hs10 := u10.size
  have q810 : Upd (· = g') w8 w10 := (u9.mono (T := (· = g')) fun _ _ e => e.elim).trans' u10 fun _ _ e => e
  have pb10 := pb8.upd q810 fun q hq e => by have := pb.2.2.2 q hq; omega
  obtain ⟨w11, j11, P11, u11⟩ := one_partQ (fun k => k ≠ g' ∧ k ≠ gm') (prest pb10) pbq (by omega)
  have hs11 := u11.size
  obtain ⟨w12, j12, m12, u12⟩ := MacWrite_ok hK hk ((T8.upd q810 fun k hk e => by omega).upd0 u11) (by omega) ((m8.upd q810 fun e => hne e.symm).upd0 u11) (fun e => e.2 rfl) P11 (by rw [ekd, htl, hdr]; omega)
  rw [ekd, List.take_append_drop] at m12
  have hs12 := u12.size
  have q812 : Upd (fun k => w5.heap.size ≤ k) w8 w12 := ((q810.mono (T := fun k => w5.heap.size ≤ k) fun k _ e => by omega).and0 u11).trans' (u12.mono (T := fun k => w5.heap.size ≤ k) fun k _ e => by omega) fun _ _ e => e
  have q712 : Upd (fun k => w5.heap.size ≤ k) w7 w12 := u8.trans' q812 fun _ _ e => e
  have s12 := (s10.upd0 u11).upd u12 hne
  have T12 := (T1.upd0 q17).upd q712 fun k hk e => by omega
  obtain ⟨x, w13, j13, ax, u13⟩ := strm_sum hK hk T12 s12 (by omega)
  have aa13 := (((aa.upd0 ((u4.and0 u5).and0 (u6.and0 u7))).upd q712 fun k hk e => by have := aa.lt hk; omega)).upd0 u13
  obtain ⟨w14, j14, u14⟩ := SameBytes_ok hK ax.rd aa13.rd (by omega)
  rw [decide_eq_true rfl] at j14
  have q1214 := u13.and0 u14
  obtain ⟨y, w15, j15, ay, u15⟩ := MacSum_ok hK hk (T12.upd0 q1214) (m12.upd0 q1214) (by omega)
  have vb15 := ((((vb.upd0 (u6.and0 u7)).upd q712 fun k hk e => by have := vb.lt hk; omega)).upd0 q1214).upd0 u15
  obtain ⟨w16, j16, u16⟩ := SameBytes_ok hK ay.rd vb15.rd (by omega)
  rw [decide_eq_true rfl] at j16
  refine ⟨w16, ?_, ((((u1.and0 q17).trans' q712 fun k hk e => by omega).and0 q1214).and0 u15).and0 u16⟩
  rw [j2, bnd_ok, j3, bnd_ok, j4, bnd_ok, j5, bnd_ok, j6, bnd_ok, j7, bnd_ok]
  dsimp only
  rw [hs1', bnd_ok]
  dsimp only
  rw [if_neg (by decide), j8, bnd_ok]
  dsimp only
  unfold law01_num
  have c3 : (0 : Int) ≤ ((at' : Nat) : Int) ∧ ((at' : Nat) : Int) ≤ ((bytes.len : Nat) : Int) := by omega
  simp only [Int.toNat_natCast]
  rw [if_pos c3, j9, bnd_ok, j10, bnd_ok, Option.bind_some]
  dsimp only
  rw [if_pos (by decide), if_pos c3, j11, bnd_ok, j12, bnd_ok, Option.bind_some]
  dsimp only
  rw [if_pos (by decide), j13, bnd_ok, j14, bnd_ok]
  dsimp only
  rw [if_pos rfl, j15, bnd_ok, j16, bnd_ok]

end Go.Sh
