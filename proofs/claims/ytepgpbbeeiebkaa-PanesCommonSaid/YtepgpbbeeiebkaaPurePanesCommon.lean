/- PanesCommon's plain statement: two windows that overlap have in common just the panes of what they have in common; no condition but that the numbers are Go's. -/
import Derived.Test.YtepgpbbeeiebkaaStx20
import Derived.Test.YtepgpbbeeiebkaaPvP
import Derived.Test.YtepgpbbeeiebkaaPvS
import Derived.Test.YtepgpbbeeiebkaaPvG
namespace Go.Proofs.Ytepgpbbeeiebkaa.Pure
open Go.RowKit Go.Proofs.Ytepgpbbeeiebkaa.St Go.Proofs.YtepgpbbeeiebkaaPv Go.Proofs.YtepgpbbeeiebkaaW.PrintWords Go.Proofs.YtepgpbbeeiebkaaW.PrintLast
set_option linter.unusedVariables false

theorem spansAt_at (sz ev t : Int) (j : Nat) (hj : j < winN sz ev t) : rd_T34 (spansAt sz ev t) (j : Int) = ⟨t - t % ev - ((winN sz ev t - 1 - j : Nat) : Int) * ev, t - t % ev - ((winN sz ev t - 1 - j : Nat) : Int) * ev + sz⟩ := by
  rw [rd34_at _ _ (by rw [spansAt_length]; exact hj)]
  simp only [spansAt, winsAt, List.getElem_map, List.getElem_reverse, List.getElem_range, List.length_range]
/-- What the rows up to the i-th add. -/
def comSum (d : Int) (e i : Nat) : Int := ((i - e : Nat) : Int) * d
theorem common_l1 {s0 s1 d : Int} {e n : Nat} (hd : 1 ≤ d) (hd2 : d ≤ 1073741824) (he : s1 = s0 + (e : Int) * d) (hn : n ≤ 200) (he2 : e ≤ 200) (hs : -1099511627776 ≤ s0 ∧ s0 ≤ 1099511627776) (SP : List S34) (i : Nat) (hi : i < n) (m : Nat) :
    ∀ (q k : Nat) (x : Int), k + q = n → 0 ≤ x → x ≤ 1000000000000000 + (k : Int) * 1073741824 → tailwaterlaw19_PanesCommon.l1 (q + 1 + m) true SP (partsL s0 d n) (partsL s1 d n) x (i : Int) (k : Int) = tailwaterlaw19_PanesCommon.l0 m true SP (partsL s0 d n) (partsL s1 d n) (x + (if e + k ≤ i then d else 0)) ((i + 1 : Nat) : Int) := by
  have mono : ∀ a b : Nat, a ≤ b → (a : Int) * d ≤ (b : Int) * d := fun a b h => Int.mul_le_mul_of_nonneg_right (by omega) (by omega)
  have suc : ∀ a : Nat, ((a + 1 : Nat) : Int) * d = (a : Int) * d + d := fun a => by rw [show ((a + 1 : Nat) : Int) = (a : Int) + 1 by omega, Int.add_mul, Int.one_mul]
  have dist : ∀ a b : Nat, ((a + b : Nat) : Int) * d = (a : Int) * d + (b : Int) * d := fun a b => by rw [show ((a + b : Nat) : Int) = (a : Int) + (b : Int) by omega, Int.add_mul]
  have low : ∀ a : Nat, 0 ≤ (a : Int) * d := fun a => Int.mul_nonneg (by omega) (by omega)
  have up : ∀ a : Nat, a ≤ 400 → (a : Int) * d ≤ 400 * 1073741824 := fun a h => Int.mul_le_mul (by omega) hd2 (by omega) (by omega)
  intro q
  induction q with
  | zero =>
    intro k x hk hx1 hx2
    obtain rfl : k = n := by omega
    rw [show 0 + 1 + m = m + 1 by omega, tailwaterlaw19_PanesCommon.l1, partsL_length, if_neg (by omega), wrap_succ' i (by omega), if_neg (by omega), Int.add_zero]
  | succ q ih =>
    intro k x hk hx1 hx2
    have u1 := up i (by omega)
    have l1 := low i
    have u2 := up (e + k) (by omega)
    have l2 := low (e + k)
    rw [dist] at u2 l2
    rw [show q + 1 + 1 + m = (q + 1 + m) + 1 by omega, tailwaterlaw19_PanesCommon.l1, partsL_length, partsL_length, if_pos (by omega), if_pos (by omega), if_pos (by omega), if_pos (by omega), partsL_at s0 d n i hi, partsL_at s1 d n k (by omega)]
    by_cases c : i = e + k
    · have e1 : s0 + (i : Int) * d = s1 + (k : Int) * d := by rw [he, c, dist]; omega
      have ew : wrap64 (x + wrap64 (s0 + (i : Int) * d + d - (s0 + (i : Int) * d))) = x + d := by
        rw [show s0 + (i : Int) * d + d - (s0 + (i : Int) * d) = d by omega, wrap_id (x := d) (by omega) (by omega), wrap_id (by omega) (by omega)]
      rw [if_pos (by simp [e1]), ew, wrap_succ' k (by omega)]
      have hh := ih (k + 1) (x + d) (by omega)
      rw [hh (by omega) (by omega), if_neg (by omega), if_pos (by omega), Int.add_zero]
    · have hno : ¬ (s0 + (i : Int) * d = s1 + (k : Int) * d) := fun h => by
        rcases Nat.lt_or_gt_of_ne c with c1 | c1
        · have := mono (i + 1) (e + k) (by omega)
          rw [suc, dist] at this
          omega
        · have := mono (e + k + 1) i (by omega)
          rw [suc, dist] at this
          omega
      rw [if_neg (by simp; intro h; exact absurd h hno), wrap_succ' k (by omega)]
      have hov : tailwaterref15_Overlap.f (s0 + (i : Int) * d) (s0 + (i : Int) * d + d) (s1 + (k : Int) * d) (s1 + (k : Int) * d + d) = some false := by
        unfold tailwaterref15_Overlap.f
        rcases Nat.lt_or_gt_of_ne c with c1 | c1
        · have := mono (i + 1) (e + k) (by omega)
          rw [suc, dist] at this
          rw [if_pos (by omega), decide_eq_false (by omega)]
        · have := mono (e + k + 1) i (by omega)
          rw [suc, dist] at this
          rw [if_neg (by omega)]
      rw [hov, Option.bind_some, if_neg (by decide), ih (k + 1) x (by omega) hx1 (by omega)]
      by_cases c2 : e + k ≤ i
      · rw [if_pos c2, if_pos (by omega)]
      · rw [if_neg c2, if_neg (by omega)]
theorem common_l0 {s0 s1 d : Int} {e n : Nat} (hd : 1 ≤ d) (hd2 : d ≤ 1073741824) (he : s1 = s0 + (e : Int) * d) (hn : n ≤ 200) (he2 : e ≤ n) (hs : -1099511627776 ≤ s0 ∧ s0 ≤ 1099511627776) (SP : List S34) (h2 : 2 ≤ SP.length) (hf0 : (rd_T34 SP 0).f1 = s0 + (n : Int) * d) (hf1 : (rd_T34 SP 1).f0 = s1) (m : Nat) :
    ∀ (q i : Nat), i + q = n → tailwaterlaw19_PanesCommon.l0 (q * (n + 2) + 1 + m) true SP (partsL s0 d n) (partsL s1 d n) (comSum d e i) (i : Int) = some true := by
  have up : ∀ a : Nat, a ≤ 400 → (a : Int) * d ≤ 400 * 1073741824 := fun a h => Int.mul_le_mul (by omega) hd2 (by omega) (by omega)
  have low : ∀ a : Nat, 0 ≤ (a : Int) * d := fun a => Int.mul_nonneg (by omega) (by omega)
  intro q
  induction q with
  | zero =>
    intro i hi
    obtain rfl : i = n := by omega
    have u1 := up (i - e) (by omega)
    have l1 := low (i - e)
    have hd3 : ((i - e : Nat) : Int) * d = (i : Int) * d - (e : Int) * d := by rw [show ((i - e : Nat) : Int) = (i : Int) - (e : Int) by omega, Int.sub_mul]
    rw [show 0 * (i + 2) + 1 + m = m + 1 by omega, tailwaterlaw19_PanesCommon.l0, partsL_length, if_neg (by omega), if_pos rfl, if_pos (by omega), if_pos (by omega), hf0, hf1, he]
    have ew : wrap64 (s0 + (i : Int) * d - (s0 + (e : Int) * d)) = comSum d e i := by
      unfold comSum
      rw [wrap_id (by omega) (by omega)]
      omega
    rw [ew]
    simp
  | succ q ih =>
    intro i hi
    have u1 := up (i - e) (by omega)
    have l1 := low (i - e)
    have hs2 : comSum d e i + (if e + 0 ≤ i then d else 0) = comSum d e (i + 1) := by
      unfold comSum
      by_cases c : e ≤ i
      · rw [if_pos (by omega), show ((i + 1 - e : Nat) : Int) = ((i - e : Nat) : Int) + 1 by omega, Int.add_mul, Int.one_mul]
      · rw [if_neg (by omega), show i + 1 - e = i - e by omega, Int.add_zero]
    have hl := common_l1 hd hd2 he hn (by omega) hs SP i (by omega) (q * (n + 2) + 1 + m) n 0 (comSum d e i) (by omega) (by unfold comSum; omega) (by unfold comSum; omega)
    rw [hs2] at hl
    have hk : (q + 1) * (n + 2) + 1 + m = (n + 1 + (q * (n + 2) + 1 + m)) + 1 := by rw [Nat.succ_mul]; omega
    rw [hk, tailwaterlaw19_PanesCommon.l0, partsL_length, if_pos (by omega)]
    exact hl.trans (ih (i + 1) (by omega))
set_option maxRecDepth 100000 in
theorem PanesCommon_fun (kd sz ev t : Int) : ∃ k, tailwaterlaw19_PanesCommon.f k kd sz ev t = some true := by
  obtain ⟨k, hk⟩ : ∃ k : Nat, k = 100000 + 2 * (sz.toNat + ev.toNat) := ⟨_, rfl⟩
  refine ⟨k, ?_⟩
  obtain ⟨q, rfl⟩ : ∃ q, k = q + 1 := ⟨k - 1, by omega⟩
  have hj : tailwaterlaw19_PanesCommon.j0 (q + 1) t true true kd sz ev = some true := by rw [tailwaterlaw19_PanesCommon.j0, if_pos rfl]
  unfold tailwaterlaw19_PanesCommon.f
  rw [alive_ok (by omega), Option.bind_some, asked_ok kd sz ev (by omega), Option.bind_some]
  by_cases h : slidE kd sz ev = 0
  · rw [if_pos h, timeCheck_ok t (by omega), Option.bind_some]
    cases ht : timeOk t with
    | false => rw [if_neg (by simp)]; exact hj
    | true =>
      obtain ⟨h1, h2, h3⟩ := slidE_zero h
      have hs := sizesOk_iff.1 h3
      obtain ⟨s1, s2, s3, s4, s5⟩ := hs
      obtain ⟨g1, g2, g3, g4⟩ := gcdI_spec (a := sz) (b := ev) s1 s2
      rw [if_pos rfl, if_pos rfl, refdiv_ok s1 s2 s3 (by omega) (by omega), Option.bind_some, if_neg (by omega), quo_ok h3]
      by_cases c200 : 200 < partN sz ev
      · rw [if_pos (by omega)]
        exact hj
      · rw [if_neg (by omega), show (!true) = false by rfl, tailwaterlaw19_PanesCommon.j0, if_neg (by decide), slideOf_ok h ht (by omega), Option.bind_some, if_pos rfl, spansAt_length]
        obtain ⟨q2, rfl⟩ : ∃ q2, q = q2 + 1 := ⟨q - 1, by omega⟩
        have hj1 : ∀ SP : List S34, tailwaterlaw19_PanesCommon.j1 (q2 + 1) true SP 0 true kd sz ev = some true := fun SP => by rw [tailwaterlaw19_PanesCommon.j1, if_pos rfl, if_pos rfl]; rfl
        by_cases c2 : winN sz ev t < 2
        · rw [if_pos (by omega)]
          exact hj1 _
        · have e0 := spansAt_at sz ev t 0 (by omega)
          have e1 := spansAt_at sz ev t 1 (by omega)
          simp only [Int.natCast_zero, Nat.sub_zero] at e0
          have e1' : rd_T34 (spansAt sz ev t) 1 = ⟨t - t % ev - ((winN sz ev t - 1 - 1 : Nat) : Int) * ev, t - t % ev - ((winN sz ev t - 1 - 1 : Nat) : Int) * ev + sz⟩ := e1
          obtain ⟨s0, hs0⟩ : ∃ s0, s0 = t - t % ev - ((winN sz ev t - 1 : Nat) : Int) * ev := ⟨_, rfl⟩
          have hsn : t - t % ev - ((winN sz ev t - 1 - 1 : Nat) : Int) * ev = s0 + ev := by
            rw [hs0, show ((winN sz ev t - 1 : Nat) : Int) = ((winN sz ev t - 1 - 1 : Nat) : Int) + 1 by omega, Int.add_mul, Int.one_mul]
            omega
          have hm0 : s0 % ev = 0 := by
            have := (mem_winsAt s2 s4 t s0).1 (by rw [hs0]; unfold winsAt; exact List.mem_map.2 ⟨winN sz ev t - 1, by simp; omega, rfl⟩)
            exact this.1
          rw [← hs0] at e0
          rw [hsn] at e1'
          rw [if_neg (by omega), if_pos (by omega), e0, timeCheck_ok _ (by omega), Option.bind_some]
          dsimp only
          cases ht0 : timeOk s0 with
          | false =>
            rw [if_neg (by simp)]
            exact hj1 _
          | true =>
            rw [if_pos rfl, if_pos rfl, if_pos (by omega), e1', timeCheck_ok _ (by omega), Option.bind_some]
            dsimp only
            cases ht1 : timeOk (s0 + ev) with
            | false =>
              rw [if_neg (by simp), show ((16 : Int) != 0) = true by decide]
              exact hj1 _
            | true =>
              have hp0 : partsOut sz ev s0 (s0 + sz) = (partsL s0 (gcdI sz ev) (partN sz ev), 0) := by unfold partsOut; rw [if_pos ⟨ht0, hm0, rfl⟩, if_neg (by omega)]
              have hp1 : partsOut sz ev (s0 + ev) (s0 + ev + sz) = (partsL (s0 + ev) (gcdI sz ev) (partN sz ev), 0) := by unfold partsOut; rw [if_pos ⟨ht1, by rw [Int.add_emod_right]; exact hm0, rfl⟩, if_neg (by omega)]
              rw [if_pos rfl, show ((0 : Int) != 0) = false by decide, tailwaterlaw19_PanesCommon.j1, if_neg (by decide), spansAt_length, if_pos (by omega), e0]
              dsimp only
              rw [parts_ok h s0 (s0 + sz) (k := q2) (by omega), hp0, Option.bind_some, if_pos (by omega), e1']
              dsimp only
              rw [parts_ok h (s0 + ev) (s0 + ev + sz) (k := q2) (by omega), hp1, Option.bind_some]
              dsimp only
              obtain ⟨q3, rfl⟩ : ∃ q3, q2 = q3 + 1 := ⟨q2 - 1, by omega⟩
              rw [if_pos rfl, show ((0 : Int) != 0) = false by decide, tailwaterlaw19_PanesCommon.j2, if_neg (by decide)]
              have hen : (((ev / gcdI sz ev).toNat : Nat) : Int) * gcdI sz ev = ev := by
                rw [Int.toNat_of_nonneg (Int.ediv_nonneg (by omega) (by omega)), Int.mul_comm]
                exact Int.mul_ediv_cancel' (Int.dvd_of_emod_eq_zero g4)
              have hpm := (partN_mul h3).1
              have hle : (ev / gcdI sz ev).toNat ≤ partN sz ev := by
                rcases Nat.lt_or_ge (partN sz ev) (ev / gcdI sz ev).toNat with c | c
                · have := Int.mul_le_mul_of_nonneg_right (show ((partN sz ev : Nat) : Int) + 1 ≤ (((ev / gcdI sz ev).toNat : Nat) : Int) by omega) (show 0 ≤ gcdI sz ev by omega)
                  rw [Int.add_mul] at this
                  omega
                · exact c
              simp only [timeOk, Bool.and_eq_true, decide_eq_true_eq] at ht0
              have hN : partN sz ev * (partN sz ev + 2) ≤ 200 * 202 := Nat.mul_le_mul (by omega) (by omega)
              have hc := common_l0 (s0 := s0) (s1 := s0 + ev) (d := gcdI sz ev) (e := (ev / gcdI sz ev).toNat) (n := partN sz ev) g1 (by omega) (by rw [hen]) (by omega) hle ht0 (spansAt sz ev t) (by rw [spansAt_length]; omega) (by rw [e0, hpm]) (by rw [e1']) (q3 - (partN sz ev * (partN sz ev + 2) + 1)) (partN sz ev) 0 (by omega)
              rw [show partN sz ev * (partN sz ev + 2) + 1 + (q3 - (partN sz ev * (partN sz ev + 2) + 1)) = q3 by omega] at hc
              have hc0 : comSum (gcdI sz ev) (ev / gcdI sz ev).toNat 0 = 0 := by unfold comSum; simp
              rw [hc0] at hc
              exact hc
  · rw [if_neg h]
    exact hj
end Go.Proofs.Ytepgpbbeeiebkaa.Pure
