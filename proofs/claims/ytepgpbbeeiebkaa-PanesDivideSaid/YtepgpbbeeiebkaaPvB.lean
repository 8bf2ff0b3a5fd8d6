/- The windows of a time, the panes of a time: what stands in which, in plain whole numbers; condition: sizes that are positive. -/
import Derived.RowKit
namespace Go.Proofs.YtepgpbbeeiebkaaPv
set_option linter.unusedVariables false
/-- How many sliding windows a time has. -/
def winN (size every t : Int) : Nat := ((size - t % every + every - 1) / every).toNat
/-- Where they begin, in order. -/
def winsAt (size every t : Int) : List Int := (List.range (winN size every t)).reverse.map fun j : Nat => t - t % every - (j : Int) * every
theorem winN_spec {size every : Int} (h1 : 1 ≤ every) (h2 : every ≤ size) (t : Int) (j : Nat) : j < winN size every t ↔ t < t - t % every - (j : Int) * every + size := by
  have m1 := Int.emod_nonneg t (show every ≠ 0 by omega)
  have m2 := Int.emod_lt_of_pos t (show 0 < every by omega)
  unfold winN
  have hpos : 0 ≤ (size - t % every + every - 1) / every := Int.ediv_nonneg (by omega) (by omega)
  rw [Int.lt_toNat]
  constructor
  · intro h
    have h3 : (j : Int) + 1 ≤ (size - t % every + every - 1) / every := by omega
    have h4 := (Int.le_ediv_iff_mul_le (show 0 < every by omega)).1 h3
    rw [Int.add_mul] at h4
    omega
  · intro h
    have h4 : ((j : Int) + 1) * every ≤ size - t % every + every - 1 := by
      rw [Int.add_mul]
      omega
    have h3 := (Int.le_ediv_iff_mul_le (show 0 < every by omega)).2 h4
    omega
theorem winN_pos {size every : Int} (h1 : 1 ≤ every) (h2 : every ≤ size) (t : Int) : 1 ≤ winN size every t := by
  have m2 := Int.emod_lt_of_pos t (show 0 < every by omega)
  have := (winN_spec h1 h2 t 0).2 (by simp; omega)
  omega
theorem winN_le {size every : Int} (h1 : 1 ≤ every) (h2 : every ≤ size) (h3 : size ≤ 16 * every) (t : Int) : winN size every t ≤ 16 := by
  have m1 := Int.emod_nonneg t (show every ≠ 0 by omega)
  rcases Nat.lt_or_ge 16 (winN size every t) with h | h
  · have := (winN_spec h1 h2 t 16).1 h
    omega
  · exact h
theorem mem_winsAt {size every : Int} (h1 : 1 ≤ every) (h2 : every ≤ size) (t s : Int) : s ∈ winsAt size every t ↔ s % every = 0 ∧ s ≤ t ∧ t < s + size := by
  have m1 := Int.emod_nonneg t (show every ≠ 0 by omega)
  have m2 := Int.emod_lt_of_pos t (show 0 < every by omega)
  have m3 := Int.mul_ediv_add_emod t every
  simp only [winsAt, List.mem_map, List.mem_reverse, List.mem_range]
  constructor
  · rintro ⟨j, hj, rfl⟩
    have := (winN_spec h1 h2 t j).1 hj
    have e : t - t % every - (j : Int) * every = every * (t / every - j) := by rw [Int.mul_sub, Int.mul_comm every (j : Int)]; omega
    refine ⟨by rw [e]; exact Int.mul_emod_right _ _, ?_, by omega⟩
    have : 0 ≤ (j : Int) * every := Int.mul_nonneg (by omega) (by omega)
    omega
  · rintro ⟨h3, h4, h5⟩
    obtain ⟨q, rfl⟩ := Int.dvd_of_emod_eq_zero h3
    have h6 : q ≤ t / every := (Int.le_ediv_iff_mul_le (show 0 < every by omega)).2 (by rw [Int.mul_comm]; exact h4)
    have e : t - t % every - ((t / every - q).toNat : Int) * every = every * q := by
      rw [Int.toNat_of_nonneg (by omega), Int.sub_mul, Int.mul_comm _ every, Int.mul_comm q every]
      omega
    refine ⟨(t / every - q).toNat, (winN_spec h1 h2 t _).2 (by rw [e]; exact h5), e⟩
theorem nodup_winsAt {size every : Int} (h1 : 1 ≤ every) (t : Int) : (winsAt size every t).Nodup := by
  unfold winsAt
  rw [List.map_reverse, (List.reverse_perm _).nodup_iff]
  refine List.Pairwise.map _ ?_ (List.nodup_range (n := winN size every t))
  intro a b hab e
  have e2 : (a : Int) * every = (b : Int) * every := by omega
  have := Int.eq_of_mul_eq_mul_right (by omega) e2
  omega
theorem winsAt_length (size every t : Int) : (winsAt size every t).length = winN size every t := by simp [winsAt]
/-- A pane's windows are those of each of its times. -/
theorem wins_pane {size every d : Int} (h1 : 1 ≤ every) (h2 : every ≤ size) (hd : 1 ≤ d) (d1 : size % d = 0) (d2 : every % d = 0) (t t' : Int) (hp : t - t % d ≤ t') (ht : t' ≤ t) (s : Int) : s ∈ winsAt size every t' ↔ s ∈ winsAt size every t := by
  rw [mem_winsAt h1 h2, mem_winsAt h1 h2]
  have m1 := Int.emod_nonneg t (show d ≠ 0 by omega)
  have m2 := Int.emod_lt_of_pos t (show 0 < d by omega)
  have m3 := Int.mul_ediv_add_emod t d
  constructor
  · rintro ⟨a, b, c⟩
    refine ⟨a, by omega, ?_⟩
    obtain ⟨q, rfl⟩ := Int.dvd_of_emod_eq_zero a
    obtain ⟨x, rfl⟩ := Int.dvd_of_emod_eq_zero d1
    obtain ⟨y, rfl⟩ := Int.dvd_of_emod_eq_zero d2
    have e : d * y * q + d * x = d * (y * q + x) := by rw [Int.mul_add, Int.mul_assoc]
    rw [e] at c ⊢
    have h3 : d * (t / d) < d * (y * q + x) := by omega
    have h4 : t / d < y * q + x := Int.lt_of_mul_lt_mul_left h3 (by omega)
    have h5 : d * (t / d + 1) ≤ d * (y * q + x) := Int.mul_le_mul_of_nonneg_left (by omega) (by omega)
    rw [Int.mul_add] at h5
    omega
  · rintro ⟨a, b, c⟩
    refine ⟨a, ?_, by omega⟩
    obtain ⟨q, rfl⟩ := Int.dvd_of_emod_eq_zero a
    obtain ⟨y, rfl⟩ := Int.dvd_of_emod_eq_zero d2
    have e : d * y * q = d * (y * q) := Int.mul_assoc _ _ _
    rw [e] at b ⊢
    have h6 : y * q ≤ t / d := (Int.le_ediv_iff_mul_le (show 0 < d by omega)).2 (by rw [Int.mul_comm]; exact b)
    have h7 : d * (y * q) ≤ d * (t / d) := Int.mul_le_mul_of_nonneg_left h6 (by omega)
    omega
end Go.Proofs.YtepgpbbeeiebkaaPv
