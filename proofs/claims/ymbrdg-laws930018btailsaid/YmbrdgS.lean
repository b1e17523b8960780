/-
  STRINGS, PLAINLY: the bytes of a text as numbers; digits read as a number. No Go in sight.
-/
import Derived.Test.YmbrdgCal
namespace Go.Proofs.Ymbrdg
/-- The i-th byte as a number. -/
def byt (s : ByteArray) (i : Nat) : Int := ((s.data.getD i 0).toNat : Int)
theorem byt_get (s : ByteArray) : ∀ (i : Nat) (h : i < s.size), ((s[i]'h).toNat : Int) = byt s i := by
  intro i h
  have h' : i < s.data.size := h
  unfold byt
  rw [Array.getD_eq_getD_getElem?, Array.getElem?_eq_getElem h']
  rfl
theorem byt_bd (s : ByteArray) (i : Nat) : 0 ≤ byt s i ∧ byt s i ≤ 255 := by
  unfold byt
  have := (s.data.getD i 0).toNat_lt
  omega
/-- The number that k bytes from lo on spell. -/
def acc (s : ByteArray) (lo : Nat) : Nat → Int
  | 0 => 0
  | k + 1 => acc s lo k * 10 + (byt s (lo + k) - 48)
/-- Are they all digits? -/
def digs (s : ByteArray) (lo : Nat) : Nat → Bool
  | 0 => true
  | k + 1 => digs s lo k && (decide (48 ≤ byt s (lo + k)) && decide (byt s (lo + k) ≤ 57))
/-- The reading: the number, or -1. -/
def rd (s : ByteArray) (lo n : Nat) : Int := if digs s lo n then acc s lo n else -1
theorem digs_succ (s : ByteArray) (lo k : Nat) : digs s lo (k + 1) = true ↔ digs s lo k = true ∧ 48 ≤ byt s (lo + k) ∧ byt s (lo + k) ≤ 57 := by
  simp [digs]
theorem digs_le (s : ByteArray) (lo : Nat) : ∀ n k, k ≤ n → digs s lo n = true → digs s lo k = true
  | 0, k, hk, h => by rw [show k = 0 by omega]; rfl
  | n + 1, k, hk, h => by
    by_cases e : k = n + 1
    · rw [e]; exact h
    · exact digs_le s lo n k (by omega) ((digs_succ s lo n).1 h).1
theorem digs_at (s : ByteArray) (lo n k : Nat) (hk : k < n) (h : digs s lo n = true) : 48 ≤ byt s (lo + k) ∧ byt s (lo + k) ≤ 57 :=
  ((digs_succ s lo k).1 (digs_le s lo n (k + 1) (by omega) h)).2
/-- Where they are not all digits there is a first one that is none. -/
theorem digs_bad (s : ByteArray) (lo : Nat) : ∀ n, digs s lo n = false → ∃ j, j < n ∧ digs s lo j = true ∧ ¬ (48 ≤ byt s (lo + j) ∧ byt s (lo + j) ≤ 57)
  | 0, h => by cases h
  | n + 1, h => by
    cases e : digs s lo n
    · obtain ⟨j, hj, hd, hb⟩ := digs_bad s lo n e
      exact ⟨j, by omega, hd, hb⟩
    · refine ⟨n, by omega, e, fun hb => ?_⟩
      rw [(digs_succ s lo n).2 ⟨e, hb⟩] at h; cases h
theorem acc_bd (s : ByteArray) (lo k : Nat) (hk : k ≤ 4) (h : digs s lo k = true) : 0 ≤ acc s lo k ∧ acc s lo k ≤ (if k = 0 then 0 else if k = 1 then 9 else if k = 2 then 99 else if k = 3 then 999 else 9999) := by
  have h0 : k = 0 ∨ k = 1 ∨ k = 2 ∨ k = 3 ∨ k = 4 := by omega
  rcases h0 with rfl | rfl | rfl | rfl | rfl
  · simp [acc]
  · have a := digs_at s lo 1 0 (by omega) h
    simp [acc] at *; omega
  · have a := digs_at s lo 2 0 (by omega) h
    have b := digs_at s lo 2 1 (by omega) h
    simp [acc] at *; omega
  · have a := digs_at s lo 3 0 (by omega) h
    have b := digs_at s lo 3 1 (by omega) h
    have c := digs_at s lo 3 2 (by omega) h
    simp [acc] at *; omega
  · have a := digs_at s lo 4 0 (by omega) h
    have b := digs_at s lo 4 1 (by omega) h
    have c := digs_at s lo 4 2 (by omega) h
    have e := digs_at s lo 4 3 (by omega) h
    simp [acc] at *; omega
theorem acc_le (s : ByteArray) (lo k : Nat) (hk : k ≤ 3) (h : digs s lo k = true) : 0 ≤ acc s lo k ∧ acc s lo k ≤ 999 := by
  have := acc_bd s lo k (by omega) h
  have h0 : k = 0 ∨ k = 1 ∨ k = 2 ∨ k = 3 := by omega
  rcases h0 with rfl | rfl | rfl | rfl <;> simp at this <;> omega
theorem rd_t {s : ByteArray} {lo n : Nat} (h : digs s lo n = true) : rd s lo n = acc s lo n := by unfold rd; simp [h]
theorem rd_f {s : ByteArray} {lo n : Nat} (h : digs s lo n = false) : rd s lo n = -1 := by unfold rd; simp [h]
/-! A written date. -/
def fmtL (y m d : Int) : List UInt8 :=
  [UInt8.ofNat (48 + y / 1000).toNat, UInt8.ofNat (48 + y / 100 % 10).toNat, UInt8.ofNat (48 + y / 10 % 10).toNat, UInt8.ofNat (48 + y % 10).toNat, 45,
    UInt8.ofNat (48 + m / 10).toNat, UInt8.ofNat (48 + m % 10).toNat, 45, UInt8.ofNat (48 + d / 10).toNat, UInt8.ofNat (48 + d % 10).toNat]
def fmtS (y m d : Int) : ByteArray := ⟨(fmtL y m d).toArray⟩
theorem fmtS_size (y m d : Int) : (fmtS y m d).size = 10 := rfl
theorem ofNat_toNat (x : Int) (h1 : 0 ≤ x) (h2 : x ≤ 255) : ((UInt8.ofNat x.toNat).toNat : Int) = x := by
  rw [UInt8.toNat_ofNat_of_lt' (by show x.toNat < 256; omega)]; omega
theorem fmtS_byt (y m d : Int) (y1 : 0 ≤ y) (y2 : y ≤ 9999) (m1 : 0 ≤ m) (m2 : m ≤ 99) (d1 : 0 ≤ d) (d2 : d ≤ 99) :
    byt (fmtS y m d) 0 = 48 + y / 1000 ∧ byt (fmtS y m d) 1 = 48 + y / 100 % 10 ∧ byt (fmtS y m d) 2 = 48 + y / 10 % 10 ∧ byt (fmtS y m d) 3 = 48 + y % 10 ∧ byt (fmtS y m d) 4 = 45 ∧
    byt (fmtS y m d) 5 = 48 + m / 10 ∧ byt (fmtS y m d) 6 = 48 + m % 10 ∧ byt (fmtS y m d) 7 = 45 ∧ byt (fmtS y m d) 8 = 48 + d / 10 ∧ byt (fmtS y m d) 9 = 48 + d % 10 := by
  refine ⟨?_, ?_, ?_, ?_, ?_, ?_, ?_, ?_, ?_, ?_⟩
  · exact ofNat_toNat _ (by omega) (by omega)
  · exact ofNat_toNat _ (by omega) (by omega)
  · exact ofNat_toNat _ (by omega) (by omega)
  · exact ofNat_toNat _ (by omega) (by omega)
  · rfl
  · exact ofNat_toNat _ (by omega) (by omega)
  · exact ofNat_toNat _ (by omega) (by omega)
  · rfl
  · exact ofNat_toNat _ (by omega) (by omega)
  · exact ofNat_toNat _ (by omega) (by omega)
end Go.Proofs.Ymbrdg
