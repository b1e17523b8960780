/-
  THE K LAWS' WALKS: NextWeekday and the laws' own reckoning of the weekday.
-/
import Derived.Test.YmbrdiAdd
import Derived.Test.YmbrdiLen
import Derived.Test.YmbrdiW
namespace Go.Proofs.Ymbrdi
open Go.RowKit
set_option linter.unusedVariables false
theorem sakTab (i : Int) (i1 : 0 ≤ i) (i2 : i < 12) : ∀ h, ([Value.int IntKind.i64 0, Value.int IntKind.i64 3, Value.int IntKind.i64 2, Value.int IntKind.i64 5, Value.int IntKind.i64 0, Value.int IntKind.i64 3, Value.int IntKind.i64 5, Value.int IntKind.i64 1, Value.int IntKind.i64 4, Value.int IntKind.i64 6, Value.int IntKind.i64 2, Value.int IntKind.i64 4] : List Value)[i.toNat]'h = Value.int IntKind.i64 (Cal.sak (i + 1)) := by
  have : i = 0 ∨ i = 1 ∨ i = 2 ∨ i = 3 ∨ i = 4 ∨ i = 5 ∨ i = 6 ∨ i = 7 ∨ i = 8 ∨ i = 9 ∨ i = 10 ∨ i = 11 := by omega
  rcases this with rfl | rfl | rfl | rfl | rfl | rfl | rfl | rfl | rfl | rfl | rfl | rfl
  all_goals exact fun _ => rfl
theorem sak_bd (m : Int) : 0 ≤ Cal.sak m ∧ Cal.sak m ≤ 6 := by
  unfold Cal.sak
  repeat (first | omega | split)
theorem wday_r {n r : Int} (h : r = Cal.wday n % 7) : (r = 0 → Cal.wday n = 7) ∧ (¬ r = 0 → Cal.wday n = r) := by
  have := Cal.wday_bd n; omega
set_option maxHeartbeats 1000000 in
theorem kwday_lo (y m d i k : Int) (w : World) (hv : Cal.vldB y m d = true) (h : m < 3) (ei : m - 1 = i) (ek : Cal.sak m = k) (k1 : 0 ≤ k) (k2 : k ≤ 6) :
    Calls Ydim.prog 26 #[.int .i64 y, .int .i64 m, .int .i64 d] w fun e w' => e = .returned (.int .i64 (Cal.wday (Cal.num y m d))) ∧ ∃ c, w' = w.alloc (.cells c 30) := by
  obtain ⟨hm1, hm2⟩ := Cal.vld_m hv
  obtain ⟨hy1, hy2, hd1, _⟩ := Cal.vld_of hv
  have hd2 := Cal.vld_d hv
  have i1 : 0 ≤ i := by omega
  have i2 : i < 12 := by omega
  have hs : ∀ h, ([Value.int IntKind.i64 0, Value.int IntKind.i64 3, Value.int IntKind.i64 2, Value.int IntKind.i64 5, Value.int IntKind.i64 0, Value.int IntKind.i64 3, Value.int IntKind.i64 5, Value.int IntKind.i64 1, Value.int IntKind.i64 4, Value.int IntKind.i64 6, Value.int IntKind.i64 2, Value.int IntKind.i64 4] : List Value)[i.toNat]'h = Value.int IntKind.i64 k := by
    have := sakTab i i1 i2
    rw [show i + 1 = m by omega, ek] at this
    exact this
  have E := Cal.sak_lo y m d hy1 hm1 (by omega)
  rw [ek] at E
  rw [show y + 399 = y + 400 - 1 by omega] at E
  have R := wday_r E
  obtain ⟨r, er⟩ : ∃ r, (y + 400 - 1 + (y + 400 - 1) / 4 - (y + 400 - 1) / 100 + (y + 400 - 1) / 400 + k + d) % 7 = r := ⟨_, rfl⟩
  rw [er] at R
  have HR : Hid ((r = 0 → Cal.wday (Cal.num y m d) = 7) ∧ (¬ r = 0 → Cal.wday (Cal.num y m d) = r)) := R
  clear E R ek
  by_cases h0 : r = 0
  · subst h0
    go_enter Ydim.func26, Ydim.ntmps26
    go_wp2
    go_ret
    exact ⟨ret_int (HR.out.1 (by simp)).symm, _, rfl⟩
  · go_enter Ydim.func26, Ydim.ntmps26
    go_wp2
    go_ret
    exact ⟨ret_int (by rw [HR.out.2 h0]; try exact er), _, rfl⟩
set_option maxHeartbeats 1000000 in
theorem kwday_hi (y m d i k : Int) (w : World) (hv : Cal.vldB y m d = true) (h : ¬ m < 3) (ei : m - 1 = i) (ek : Cal.sak m = k) (k1 : 0 ≤ k) (k2 : k ≤ 6) :
    Calls Ydim.prog 26 #[.int .i64 y, .int .i64 m, .int .i64 d] w fun e w' => e = .returned (.int .i64 (Cal.wday (Cal.num y m d))) ∧ ∃ c, w' = w.alloc (.cells c 30) := by
  obtain ⟨hm1, hm2⟩ := Cal.vld_m hv
  obtain ⟨hy1, hy2, hd1, _⟩ := Cal.vld_of hv
  have hd2 := Cal.vld_d hv
  have i1 : 0 ≤ i := by omega
  have i2 : i < 12 := by omega
  have hs : ∀ h, ([Value.int IntKind.i64 0, Value.int IntKind.i64 3, Value.int IntKind.i64 2, Value.int IntKind.i64 5, Value.int IntKind.i64 0, Value.int IntKind.i64 3, Value.int IntKind.i64 5, Value.int IntKind.i64 1, Value.int IntKind.i64 4, Value.int IntKind.i64 6, Value.int IntKind.i64 2, Value.int IntKind.i64 4] : List Value)[i.toNat]'h = Value.int IntKind.i64 k := by
    have := sakTab i i1 i2
    rw [show i + 1 = m by omega, ek] at this
    exact this
  have E := Cal.sak_hi y m d hy1 (by omega) hm2
  rw [ek] at E
  have R := wday_r E
  obtain ⟨r, er⟩ : ∃ r, (y + 400 + (y + 400) / 4 - (y + 400) / 100 + (y + 400) / 400 + k + d) % 7 = r := ⟨_, rfl⟩
  rw [er] at R
  have HR : Hid ((r = 0 → Cal.wday (Cal.num y m d) = 7) ∧ (¬ r = 0 → Cal.wday (Cal.num y m d) = r)) := R
  clear E R ek
  by_cases h0 : r = 0
  · subst h0
    go_enter Ydim.func26, Ydim.ntmps26
    go_wp2
    go_ret
    exact ⟨ret_int (HR.out.1 (by simp)).symm, _, rfl⟩
  · go_enter Ydim.func26, Ydim.ntmps26
    go_wp2
    go_ret
    exact ⟨ret_int (by rw [HR.out.2 h0]; try exact er), _, rfl⟩
theorem kwday_any (y m d : Int) (w : World) (hv : Cal.vldB y m d = true) :
    Calls Ydim.prog 26 #[.int .i64 y, .int .i64 m, .int .i64 d] w fun e w' => e = .returned (.int .i64 (Cal.wday (Cal.num y m d))) ∧ ∃ c, w' = w.alloc (.cells c 30) := by
  obtain ⟨s1, s2⟩ := sak_bd m
  by_cases h : m < 3
  · exact kwday_lo y m d _ _ w hv h rfl rfl s1 s2
  · exact kwday_hi y m d _ _ w hv h rfl rfl s1 s2
end Go.Proofs.Ymbrdi
