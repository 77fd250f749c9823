/- Kinds of digests: what kindOf, Size and Block of package digest compute; 'cofferlaw01.DigestSizes': what the walk computes. -/
import Derived.Test.YtgmdbhckccmhjaaDoorFwP
import Derived.Test.YtgmdbhckccmhjaaDoorSh0
set_option linter.unusedVariables false
namespace Go.Sh
open Go.Fw Go.RowKit Go.Proofs.Tryd

/-- the cells of a kind -/
def kc (h : Int) : List Value :=
  if h = 224 then [.int .i64 28, .int .i64 64, .int .i64 4, .func (.func 80) #[] #[]]
  else if h = 256 then [.int .i64 32, .int .i64 64, .int .i64 4, .func (.func 80) #[] #[]]
  else if h = 384 then [.int .i64 48, .int .i64 128, .int .i64 8, .func (.func 81) #[] #[]]
  else if h = 512 then [.int .i64 64, .int .i64 128, .int .i64 8, .func (.func 81) #[] #[]]
  else [.int .i64 0, .int .i64 0, .int .i64 0, .nilFunc]

def known (h : Int) : Bool := h == 224 || h == 256 || h == 384 || h == 512

theorem kc_len (h : Int) : (kc h).length = 4 := by
  unfold kc; repeat' split
  all_goals rfl
theorem kc_one (h : Int) : ∀ v ∈ kc h, v.oneCell' = true := by
  unfold kc
  repeat' split
  all_goals (intro v hv; simp at hv; rcases hv with rfl | rfl | rfl | rfl <;> rfl)

theorem z77_eq : z77.toList = [.int .i64 0, .int .i64 0, .int .i64 0, .nilFunc] := rfl

theorem built224 : prog.built 77 [(0, (.int .i64 (IntKind.i64.wrap (Int.tdiv 224 8)))), (1, (.int .i64 64)), (2, (.int .i64 4)), (3, (.func (.func 80) #[] #[]))] = some (kc 224).toArray := by kernel_rfl
theorem built256 : prog.built 77 [(0, (.int .i64 (IntKind.i64.wrap (Int.tdiv 256 8)))), (1, (.int .i64 64)), (2, (.int .i64 4)), (3, (.func (.func 80) #[] #[]))] = some (kc 256).toArray := by kernel_rfl
theorem built384 : prog.built 77 [(0, (.int .i64 (IntKind.i64.wrap (Int.tdiv 384 8)))), (1, (.int .i64 128)), (2, (.int .i64 8)), (3, (.func (.func 81) #[] #[]))] = some (kc 384).toArray := by kernel_rfl
theorem built512 : prog.built 77 [(0, (.int .i64 (IntKind.i64.wrap (Int.tdiv 512 8)))), (1, (.int .i64 128)), (2, (.int .i64 8)), (3, (.func (.func 81) #[] #[]))] = some (kc 512).toArray := by kernel_rfl
theorem built0 : prog.built 77 [] = some #[.int .i64 0, .int .i64 0, .int .i64 0, .nilFunc] := by kernel_rfl

theorem kc_other {h : Int} (hk : known h = false) : kc h = [.int .i64 0, .int .i64 0, .int .i64 0, .nilFunc] := by
  simp [known] at hk
  unfold kc
  rw [if_neg hk.1.1.1, if_neg hk.1.1.2, if_neg hk.1.2, if_neg hk.2]

/-- a row of cells laid over a new block of as many -/
theorem lay {e : TypeId} {w : World} {g : Nat} {cs vs : List Value} (hb : Bk e w g cs) (hl : vs.length = cs.length) (h1 : ∀ v ∈ vs, v.oneCell' = true) :
    ∃ w', stA ⟨g, 0, none⟩ vs.toArray w = some w' ∧ Bk e w' g vs ∧ Upd (· = g) w w' ∧ ldA vs.length ⟨g, 0, none⟩ w' = some vs.toArray := by
  obtain ⟨w', a1, a2, a3⟩ := hb.stA (o := 0) (vs := vs.toArray) (by simp [hl]) (fun v hv => h1 v hv)
  have es : seg cs 0 vs = vs := by
    simp only [seg, List.take_zero, List.nil_append, Nat.zero_add]
    rw [List.drop_eq_nil_of_le (by omega), List.append_nil]
  have a2 : Bk e w' g vs := by rw [← es]; exact a2
  have hl := a2.ldA (i := 0) (n := vs.length) (by omega)
  rw [List.drop_zero, List.take_of_length_le (Nat.le_refl _)] at hl
  exact ⟨w', a1, a2, a3, hl⟩

/-- the end of kindOf: the cells are laid and read -/
theorem kindOf_end {w : World} {cs : List Value} (v : List Value) (b : Bool) (hc : cs.length = 4) {g : Nat} (hb : Bk 77 w g cs) (hv : v.length = 4) (h1 : ∀ x ∈ v, x.oneCell' = true) :
    ∃ w', (if (v.toArray).size = 4 then ((stA ⟨g, 0, none⟩ v.toArray w).bind fun w_6 => (ldA 4 ⟨g, 0, none⟩ w_6).bind fun res_7 => some ((res_7, b, ()), w_6)) else none) = some ((v.toArray, b, ()), w') ∧ Upd (· = g) w w' := by
  obtain ⟨w', a1, a2, a3, a4⟩ := lay hb (by omega) h1
  rw [hv] at a4
  refine ⟨w', ?_, a3⟩
  rw [if_pos (by simpa using hv), a1, Option.bind_some, a4, Option.bind_some]

theorem kindOf_ok (h : Int) (w : World) : ∃ w', digest_kindOf h w = some (((kc h).toArray, known h, ()), w') ∧ Upd none_ w w' := by
  obtain ⟨w1, n1, b1, u1, z1⟩ := newB_ok z77 77 w
  have b1 : Bk 77 w1 w.heap.size z77.toList := b1
  obtain ⟨w2, e2, u2⟩ := kindOf_end (kc h) (known h) (by rw [z77_eq]; rfl) b1 (kc_len h) (kc_one h)
  refine ⟨w2, ?_, u1.trans' u2 fun k hk e => by omega⟩
  unfold digest_kindOf
  rw [n1, bnd_ok]
  by_cases c1 : h = 224
  · subst c1
    have s0 : digest_kindOf_s0 224 ((224 : Int) == 224) w1 = some ((true, ()), w1) := rfl
    rw [s0, bnd_ok, if_pos rfl, built224, Option.bind_some]
    exact e2
  by_cases c2 : h = 256
  · subst c2
    have s0 : digest_kindOf_s0 256 ((256 : Int) == 224) w1 = some ((true, ()), w1) := rfl
    rw [s0, bnd_ok, if_pos rfl, built256, Option.bind_some]
    exact e2
  have s0 : digest_kindOf_s0 h (h == 224) w1 = some ((false, ()), w1) := by
    have q1 : (h == 224) = false := by simpa using c1
    have q2 : (h == 256) = false := by simpa using c2
    unfold digest_kindOf_s0; rw [q1, q2]; rfl
  rw [s0, bnd_ok, if_neg (by decide)]
  by_cases c3 : h = 384
  · subst c3
    have s1 : digest_kindOf_s1 384 ((384 : Int) == 384) w1 = some ((true, ()), w1) := rfl
    rw [s1, bnd_ok, if_pos rfl, built384, Option.bind_some]
    exact e2
  by_cases c4 : h = 512
  · subst c4
    have s1 : digest_kindOf_s1 512 ((512 : Int) == 384) w1 = some ((true, ()), w1) := rfl
    rw [s1, bnd_ok, if_pos rfl, built512, Option.bind_some]
    exact e2
  have s1 : digest_kindOf_s1 h (h == 384) w1 = some ((false, ()), w1) := by
    have q1 : (h == 384) = false := by simpa using c3
    have q2 : (h == 512) = false := by simpa using c4
    unfold digest_kindOf_s1; rw [q1, q2]; rfl
  have hk : known h = false := by simp [known, c1, c2, c3, c4]
  rw [s1, bnd_ok, if_neg (by decide), built0, Option.bind_some]
  rw [kc_other hk, hk] at e2 ⊢
  exact e2

/-- size and block of a digest -/
def sizeOfH (h : Int) : Int := if known h = true then h / 8 else 0
def blockOfH (h : Int) : Int := if h = 224 ∨ h = 256 then 64 else if h = 384 ∨ h = 512 then 128 else 0

theorem kc_get (h : Int) : (kc h)[0]? = some (.int .i64 (sizeOfH h)) ∧ (kc h)[1]? = some (.int .i64 (blockOfH h)) := by
  by_cases c1 : h = 224
  · subst c1; exact ⟨rfl, rfl⟩
  by_cases c2 : h = 256
  · subst c2; exact ⟨rfl, rfl⟩
  by_cases c3 : h = 384
  · subst c3; exact ⟨rfl, rfl⟩
  by_cases c4 : h = 512
  · subst c4; exact ⟨rfl, rfl⟩
  have hk : known h = false := by simp [known, c1, c2, c3, c4]
  rw [kc_other hk]
  simp [sizeOfH, blockOfH, hk, c1, c2, c3, c4]

theorem Size_ok (h : Int) (w : World) : ∃ w', digest_Size h w = some ((sizeOfH h, ()), w') ∧ Upd none_ w w' := by
  obtain ⟨w1, h1, u1⟩ := kindOf_ok h w
  obtain ⟨w2, n2, b2, u2, z2⟩ := newB_ok z77 77 w1
  obtain ⟨w3, a1, a2, a3, a4⟩ := lay b2 (vs := kc h) (by rw [kc_len]; rfl) (kc_one h)
  refine ⟨w3, ?_, (u1.and0 u2).trans' a3 fun k hk e => by have := u1.size; omega⟩
  unfold digest_Size
  rw [h1, bnd_ok, n2, bnd_ok]
  show (if (kc h).toArray.size = 4 then (stA ⟨w1.heap.size, 0, none⟩ (kc h).toArray w2).bind _ else none) = _
  rw [if_pos (by simpa using kc_len h), a1, Option.bind_some, add_lit, a2.ldI (kc_get h).1, Option.bind_some]

theorem Block_ok (h : Int) (w : World) : ∃ w', digest_Block h w = some ((blockOfH h, ()), w') ∧ Upd none_ w w' := by
  obtain ⟨w1, h1, u1⟩ := kindOf_ok h w
  obtain ⟨w2, n2, b2, u2, z2⟩ := newB_ok z77 77 w1
  obtain ⟨w3, a1, a2, a3, a4⟩ := lay b2 (vs := kc h) (by rw [kc_len]; rfl) (kc_one h)
  refine ⟨w3, ?_, (u1.and0 u2).trans' a3 fun k hk e => by have := u1.size; omega⟩
  unfold digest_Block
  rw [h1, bnd_ok, n2, bnd_ok]
  show (if (kc h).toArray.size = 4 then (stA ⟨w1.heap.size, 0, none⟩ (kc h).toArray w2).bind _ else none) = _
  rw [if_pos (by simpa using kc_len h), a1, Option.bind_some, add_lit, a2.ldI (kc_get h).2, Option.bind_some]

theorem refSize_ok (h : Int) : ref01_Size h = some (sizeOfH h, ()) := by
  by_cases c1 : h = 224
  · subst c1; rfl
  by_cases c2 : h = 256
  · subst c2; rfl
  by_cases c3 : h = 384
  · subst c3; rfl
  by_cases c4 : h = 512
  · subst c4; rfl
  have hk : known h = false := by simp [known, c1, c2, c3, c4]
  simp [ref01_Size, sizeOfH, hk, c1, c2, c3, c4]

theorem refBlock_ok (h : Int) : ref01_Block h = some (blockOfH h, ()) := by
  by_cases c1 : h = 224
  · subst c1; rfl
  by_cases c2 : h = 256
  · subst c2; rfl
  by_cases c3 : h = 384
  · subst c3; rfl
  by_cases c4 : h = 512
  · subst c4; rfl
  simp [ref01_Block, ref01_Block_s0, blockOfH, c1, c2, c3, c4]

theorem DigestSizes_ok (h : Int) (w : World) : ∃ w', law01_DigestSizes h w = some ((true, ()), w') ∧ Upd none_ w w' := by
  obtain ⟨w1, h1, u1⟩ := Size_ok h w
  obtain ⟨w2, h2, u2⟩ := Block_ok h w1
  obtain ⟨w3, h3, u3⟩ := Size_ok 256 w2
  refine ⟨w3, ?_, (u1.and0 u2).and0 u3⟩
  unfold law01_DigestSizes
  rw [h1, bnd_ok, refSize_ok, Option.bind_some]
  simp only [beq_self_eq_true, if_true]
  rw [h2, bnd_ok, refBlock_ok, Option.bind_some]
  simp only [beq_self_eq_true, if_true]
  rw [h3, bnd_ok]
  rfl

end Go.Sh
