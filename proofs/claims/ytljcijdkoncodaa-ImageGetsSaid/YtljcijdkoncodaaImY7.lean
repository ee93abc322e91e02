import Derived.Test.YtljcijdkoncodaaImgBig
import Derived.Test.YtljcijdkoncodaaRows
import Derived.Test.YtljcijdkoncodaaImY6
import Derived.Test.YtljcijdkoncodaaImgParse
set_option linter.unusedSimpArgs false
set_option linter.unusedVariables false
namespace Go.Proofs.I
open Go Go.Ux Go.Ux.Image Go.Proofs


theorem number_any (rb : Nat) (sv : Value) (l : List UInt8) (n : Nat) (bad : Bool) (w : World) (hB0 : Blk w rb #[sv, .bool bad] 64) (hS0 : Sl w sv 1 l.length (bs l)) (hne0 : sv.ownBlock ≠ some rb) (hn : n ≤ 6) :
    CallsR Try.prog 30 #[ptr rb 0, IN n] w (fun v w' => ∃ m sv' bad' l', v = IN m ∧ m < 256 ^ n ∧ Mod (· = rb) w w' ∧ Blk w' rb #[sv', .bool bad'] 64 ∧ Sl w' sv' 1 l'.length (bs l') ∧ sv'.ownBlock = sv.ownBlock ∧ l'.length ≤ l.length) := by
  have hp : 0 < 256 ^ n := Nat.pow_pos (by decide)
  cases bad with
  | true => exact (number_bad rb sv l n w hB0 hS0 hne0).mono fun v w' ⟨h1, h2, h3, h4⟩ => ⟨0, sv, true, l, h1, hp, h2, h3, h4, rfl, Nat.le_refl _⟩
  | false =>
    by_cases h : n ≤ l.length
    · refine (number_ok rb sv l n w hB0 hS0 hne0 h hn).mono ?_
      rintro v w' ⟨h1, h2, sv', h3, h4, h5⟩
      refine ⟨_, sv', false, l.drop n, h1, ?_, h2, h3, h4, h5, by rw [List.length_drop]; omega⟩
      have := num_lt (l.take n)
      rwa [List.length_take, Nat.min_eq_left h] at this
    · exact (number_short rb sv l n w hB0 hS0 hne0 (by omega)).mono fun v w' ⟨h1, h2, h3, h4⟩ => ⟨0, sv, true, l, h1, hp, h2, h3, h4, rfl, Nat.le_refl _⟩
theorem take_any (rb : Nat) (sv : Value) (l : List UInt8) (n : Nat) (bad : Bool) (w : World) (hB0 : Blk w rb #[sv, .bool bad] 64) (hS0 : Sl w sv 1 l.length (bs l)) (hne0 : sv.ownBlock ≠ some rb) :
    CallsR Try.prog 29 #[ptr rb 0, IN n] w (fun v w' => ∃ t sv' bad' l', Sl w' v 1 t.length (bs t) ∧ t.length ≤ n ∧ Mod (· = rb) w w' ∧ Blk w' rb #[sv', .bool bad'] 64 ∧ Sl w' sv' 1 l'.length (bs l') ∧ sv'.ownBlock = sv.ownBlock ∧ l'.length ≤ l.length) := by
  cases bad with
  | true => exact (take_bad rb sv l n w hB0 hS0 hne0).mono fun v w' ⟨h1, h2, h3, h4⟩ => ⟨[], sv, true, l, h1 ▸ Sl.nil _ _ _, Nat.zero_le _, h2, h3, h4, rfl, Nat.le_refl _⟩
  | false =>
    by_cases h : n ≤ l.length
    · refine (take_ok rb sv l n w hB0 hS0 hne0 h).mono ?_
      rintro v w' ⟨h1, h2, sv', h3, h4, h5⟩
      exact ⟨l.take n, sv', false, l.drop n, by rw [List.length_take, Nat.min_eq_left h]; exact h1, by rw [List.length_take]; omega, h2, h3, h4, h5, by rw [List.length_drop]; omega⟩
    · exact (take_short rb sv l n w hB0 hS0 hne0 (by omega)).mono fun v w' ⟨h1, h2, h3, h4⟩ => ⟨[], sv, true, l, h1 ▸ Sl.nil _ _ _, Nat.zero_le _, h2, h3, h4, rfl, Nat.le_refl _⟩
theorem number_be (rb : Nat) (sv : Value) (l : List UInt8) (r : List UInt8) (k : Nat) (n : Int) (w : World) (hB0 : Blk w rb #[sv, .bool false] 64) (hS0 : Sl w sv 1 l.length (bs l)) (hne0 : sv.ownBlock ≠ some rb) (hk : k ≤ 6) (hl : l = be k n ++ r) (h0 : 0 ≤ n) (h1 : n < ((256 ^ k : Nat) : Int)) :
    CallsR Try.prog 30 #[ptr rb 0, IN k] w (fun v w' => v = .int .i64 n ∧ Mod (· = rb) w w' ∧ ∃ sv', Blk w' rb #[sv', .bool false] 64 ∧ Sl w' sv' 1 r.length (bs r) ∧ sv'.ownBlock = sv.ownBlock) := by
  have hlen : k ≤ l.length := by rw [hl, List.length_append, be_length]; omega
  refine (number_ok rb sv l k w hB0 hS0 hne0 hlen hk).mono ?_
  rintro v w' ⟨e, h2, sv', h3, h4, h5⟩
  have ht : l.take k = be k n := by rw [hl, List.take_left' (be_length k n)]
  have hd : l.drop k = r := by rw [hl, List.drop_left' (be_length k n)]
  rw [hd] at h4
  refine ⟨?_, h2, sv', h3, h4, h5⟩
  rw [e, ht]
  exact congrArg (Value.int .i64) (num_be' k n h0 h1)
theorem take_pre (rb : Nat) (sv : Value) (l a r : List UInt8) (n : Nat) (w : World) (hB0 : Blk w rb #[sv, .bool false] 64) (hS0 : Sl w sv 1 l.length (bs l)) (hne0 : sv.ownBlock ≠ some rb) (hl : l = a ++ r) (hn : a.length = n) :
    CallsR Try.prog 29 #[ptr rb 0, IN n] w (fun v w' => Sl w' v 1 n (bs a) ∧ Mod (· = rb) w w' ∧ ∃ sv', Blk w' rb #[sv', .bool false] 64 ∧ Sl w' sv' 1 r.length (bs r) ∧ sv'.ownBlock = sv.ownBlock) := by
  subst hn
  have hlen : a.length ≤ l.length := by rw [hl, List.length_append]; omega
  refine (take_ok rb sv l a.length w hB0 hS0 hne0 hlen).mono ?_
  rintro v w' ⟨e, h2, sv', h3, h4, h5⟩
  rw [hl, List.drop_left] at h4
  rw [hl, List.take_left] at e
  exact ⟨e, h2, sv', h3, h4, h5⟩
theorem put_any (sv wv : Value) (I : Img) (w : World) (hR : Rep w sv wv I) (hN : ∀ s ∈ I.syms, s.1.length ≤ 1000000000 ∧ s.2 ≤ 9223372036854775807) :
    CallsR Try.prog 11 #[.agg #[.int .i64 I.entry, sv, wv]] w (fun v w' => ∃ r e l, v = .tuple #[r, .int .i64 e] ∧ Sl w' r 1 l.length (bs l) ∧ l.length ≤ 2000000 ∧ (e = 0 → rightB I = true ∧ l = bytesOf I) ∧ Ext w w') := by
  cases hr : rightB I with
  | false => exact (put_no sv wv I w hR hN hr).mono fun v w' ⟨h1, h2⟩ => ⟨_, 2, [], h1, Sl.nil _ _ _, Nat.zero_le _, fun h => absurd h (by decide), h2⟩
  | true =>
    refine (put_ok sv wv I w hR hN hr).mono ?_
    rintro v w' ⟨u, h1, h2, _, h4⟩
    refine ⟨u, 0, bytesOf I, h1, h2.sl, ?_, fun _ => ⟨rfl, rfl⟩, h4⟩
    obtain ⟨_, _, h3, _, h5, _⟩ := right_bounds hr
    have := codeTo_le I I.words.length (Nat.le_refl _)
    have := bytesTo_le I h3 I.syms.length (Nat.le_refl _)
    rw [← codeTo_all]; omega
theorem conv_u32 {s u : TypeId} {td : TypeDesc} (h1 : Try.prog.underlying s = some td) (h2 : Try.prog.underlying u = some (.int .u32)) (n : Nat) : ConvR Try.prog s u (IN n) (U32 (BitVec.ofNat 32 n)) := by
  have h := ConvR.int (P := Try.prog) (k := .i64) (a := (n : Int)) h1 h2
  rw [wrap_u32_bv] at h
  rwa [BitVec.ofInt_natCast] at h
theorem conv_u32' {s u : TypeId} {td : TypeDesc} (h1 : Try.prog.underlying s = some td) (h2 : Try.prog.underlying u = some (.int .u32)) (x : BitVec 32) : ConvR Try.prog s u (.int .i64 (x.toNat : Int)) (U32 x) := by
  have h := conv_u32 h1 h2 x.toNat
  rwa [BitVec.ofNat_toNat, BitVec.setWidth_eq] at h
end Go.Proofs.I
