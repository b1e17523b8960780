/-
  THE ORDER OF WRITTEN DATES is the order of the dates. No Go in sight but the model's own order of bytes.
-/
import Derived.Test.YmbrdgS
import Derived.Laws.Strings
namespace Go.Proofs.Ymbrdg
set_option linter.unusedVariables false
theorem u8lt (x x' : Int) (h1 : 0 ≤ x) (h2 : x ≤ 255) (h3 : 0 ≤ x') (h4 : x' ≤ 255) : (decide (UInt8.ofNat x.toNat < UInt8.ofNat x'.toNat)) = decide (x < x') := by
  rw [Bool.eq_iff_iff]; simp only [decide_eq_true_iff]
  rw [UInt8.lt_iff_toNat_lt]
  have a := ofNat_toNat x h1 h2
  have b := ofNat_toNat x' h3 h4
  omega
theorem u8eq (x x' : Int) (h1 : 0 ≤ x) (h2 : x ≤ 255) (h3 : 0 ≤ x') (h4 : x' ≤ 255) : (UInt8.ofNat x.toNat == UInt8.ofNat x'.toNat) = decide (x = x') := by
  rw [Bool.eq_iff_iff]; simp only [decide_eq_true_iff, beq_iff_eq]
  rw [← UInt8.toNat_inj]
  have a := ofNat_toNat x h1 h2
  have b := ofNat_toNat x' h3 h4
  omega
theorem lex4 (y y' : Int) (R : Prop) (y1 : 0 ≤ y) (y2 : y ≤ 9999) (y3 : 0 ≤ y') (y4 : y' ≤ 9999) :
    (48 + y / 1000 < 48 + y' / 1000 ∨ (48 + y / 1000 = 48 + y' / 1000 ∧ (48 + y / 100 % 10 < 48 + y' / 100 % 10 ∨ (48 + y / 100 % 10 = 48 + y' / 100 % 10 ∧ (48 + y / 10 % 10 < 48 + y' / 10 % 10 ∨ (48 + y / 10 % 10 = 48 + y' / 10 % 10 ∧ (48 + y % 10 < 48 + y' % 10 ∨ (48 + y % 10 = 48 + y' % 10 ∧ R)))))))) ↔ (y < y' ∨ (y = y' ∧ R)) := by
  by_cases hR : R
  · simp only [hR, and_true]; omega
  · simp only [hR, and_false, or_false]; omega
theorem lex2 (m m' : Int) (R : Prop) (m1 : 0 ≤ m) (m2 : m ≤ 99) (m3 : 0 ≤ m') (m4 : m' ≤ 99) :
    (48 + m / 10 < 48 + m' / 10 ∨ (48 + m / 10 = 48 + m' / 10 ∧ (48 + m % 10 < 48 + m' % 10 ∨ (48 + m % 10 = 48 + m' % 10 ∧ R)))) ↔ (m < m' ∨ (m = m' ∧ R)) := by
  by_cases hR : R
  · simp only [hR, and_true]; omega
  · simp only [hR, and_false, or_false]; omega
theorem less_fmt (y m d y' m' d' : Int) (y1 : 0 ≤ y) (y2 : y ≤ 9999) (m1 : 0 ≤ m) (m2 : m ≤ 99) (d1 : 0 ≤ d) (d2 : d ≤ 99) (y3 : 0 ≤ y') (y4 : y' ≤ 9999) (m3 : 0 ≤ m') (m4 : m' ≤ 99) (d3 : 0 ≤ d') (d4 : d' ≤ 99) :
    Op.bytesLess (fmtS y m d).toList (fmtS y' m' d').toList = decide (y < y' ∨ (y = y' ∧ (m < m' ∨ (m = m' ∧ d < d')))) := by
  rw [ByteArray.toList_eq, ByteArray.toList_eq]
  show Op.bytesLess (fmtL y m d) (fmtL y' m' d') = _
  unfold fmtL
  simp only [Op.bytesLess]
  rw [u8lt _ _ (by omega) (by omega) (by omega) (by omega), u8eq _ _ (by omega) (by omega) (by omega) (by omega), u8lt _ _ (by omega) (by omega) (by omega) (by omega), u8eq _ _ (by omega) (by omega) (by omega) (by omega),
    u8lt _ _ (by omega) (by omega) (by omega) (by omega), u8eq _ _ (by omega) (by omega) (by omega) (by omega), u8lt _ _ (by omega) (by omega) (by omega) (by omega), u8eq _ _ (by omega) (by omega) (by omega) (by omega),
    u8lt _ _ (by omega) (by omega) (by omega) (by omega), u8eq _ _ (by omega) (by omega) (by omega) (by omega), u8lt _ _ (by omega) (by omega) (by omega) (by omega), u8eq _ _ (by omega) (by omega) (by omega) (by omega),
    u8lt _ _ (by omega) (by omega) (by omega) (by omega), u8eq _ _ (by omega) (by omega) (by omega) (by omega), u8lt _ _ (by omega) (by omega) (by omega) (by omega), u8eq _ _ (by omega) (by omega) (by omega) (by omega)]
  rw [Bool.eq_iff_iff]
  have e45 : ((45 : UInt8) < 45) = False := by decide
  simp only [Bool.or_eq_true, Bool.and_eq_true, decide_eq_true_iff, e45, decide_false, beq_self_eq_true, Bool.false_eq_true, false_or, true_and, and_false, or_false]
  rw [lex4 y y' _ y1 y2 y3 y4, lex2 m m' _ m1 m2 m3 m4]
  have l := lex2 d d' False d1 d2 d3 d4
  simp only [and_false, or_false] at l
  rw [l]
theorem eq_fmt (y m d y' m' d' : Int) (y1 : 0 ≤ y) (y2 : y ≤ 9999) (m1 : 0 ≤ m) (m2 : m ≤ 99) (d1 : 0 ≤ d) (d2 : d ≤ 99) (y3 : 0 ≤ y') (y4 : y' ≤ 9999) (m3 : 0 ≤ m') (m4 : m' ≤ 99) (d3 : 0 ≤ d') (d4 : d' ≤ 99) (h : ¬ (y = y' ∧ m = m' ∧ d = d')) :
    ((fmtS y m d).toList == (fmtS y' m' d').toList) = false := by
  rw [beq_eq_false_iff_ne]
  intro e
  have a := less_fmt y m d y' m' d' y1 y2 m1 m2 d1 d2 y3 y4 m3 m4 d3 d4
  have b := less_fmt y' m' d' y m d y3 y4 m3 m4 d3 d4 y1 y2 m1 m2 d1 d2
  have c := less_fmt y' m' d' y' m' d' y3 y4 m3 m4 d3 d4 y3 y4 m3 m4 d3 d4
  rw [e, c] at a b
  simp only [Int.lt_irrefl, false_or, and_false] at a b
  have a' := a.symm
  have b' := b.symm
  simp only [decide_false, decide_eq_false_iff_not] at a' b'
  omega
end Go.Proofs.Ymbrdg
