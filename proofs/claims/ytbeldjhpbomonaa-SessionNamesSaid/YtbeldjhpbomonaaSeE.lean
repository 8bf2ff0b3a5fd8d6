/- What Add, Of and Merge hand back, of the program and of the reference: the same sessions; conditions: lists that are not too long. -/
import Derived.Test.YtbeldjhpbomonaaSeD
namespace Go.Proofs.Ytbeldjhpbomonaa.Se
open Go.RowKit Go.Proofs.YtbeldjhpbomonaaW.PrintWords Go.Proofs.YtbeldjhpbomonaaW.PrintLast Go.Proofs.YtbeldjhpbomonaaW.PrintMore
set_option linter.unusedVariables false

theorem leO_up {α : Type} {f : Nat → Option α} (h : ∀ k, LeO (f k) (f (k + 1))) {k0 : Nat} {r : α} (h0 : f k0 = some r) {k : Nat} (hk : k0 ≤ k) : f k = some r := by
  obtain ⟨d, rfl⟩ := Nat.exists_eq_add_of_le hk
  clear hk
  induction d with
  | zero => exact h0
  | succ d ih => exact h _ _ ih

def alone (g t : Int) : S35 := ⟨t, t + g⟩
def ofL (times : List Int) (g : Int) : List S35 := times.foldl (fun l t => withL l t (t + g)) []

theorem of_fold (g : Int) (hg : okGap g) : ∀ (times : List Int) (l : List S35), Pos l → Ord l →
    Pos (times.foldl (fun l t => withL l t (t + g)) l) ∧ Ord (times.foldl (fun l t => withL l t (t + g)) l) ∧ (∀ q, Cov (times.foldl (fun l t => withL l t (t + g)) l) q ↔ Cov (l ++ times.map (alone g)) q) ∧ (times.foldl (fun l t => withL l t (t + g)) l).length ≤ l.length + times.length := by
  intro times
  induction times with
  | nil => intro l hp ho; exact ⟨hp, ho, fun q => by simp, by simp⟩
  | cons t ts ih =>
    intro l hp ho
    unfold okGap at hg
    have h := with_pos (l := l) (a := t) (b := t + g) (by omega) hp ho
    have h2 := with_ord (l := l) (a := t) (b := t + g) (by omega) hp ho
    have h3 := with_cov (l := l) (a := t) (b := t + g) (by omega) hp ho
    have h4 := with_len (l := l) (a := t) (b := t + g) (by omega) hp ho
    obtain ⟨i1, i2, i3, i4⟩ := ih (withL l t (t + g)) h h2
    refine ⟨i1, i2, fun q => ?_, ?_⟩
    · rw [List.foldl_cons, i3 q, cov_append, h3 q, List.map_cons, cov_append, cov_cons, or_assoc]
      rfl
    · rw [List.foldl_cons]
      simp only [List.length_cons]
      omega
theorem of_pos {times : List Int} {g : Int} (hg : okGap g) : Pos (ofL times g) := (of_fold g hg times [] (fun x hx => by simp at hx) List.Pairwise.nil).1
theorem of_ord {times : List Int} {g : Int} (hg : okGap g) : Ord (ofL times g) := (of_fold g hg times [] (fun x hx => by simp at hx) List.Pairwise.nil).2.1
theorem of_cov {times : List Int} {g : Int} (hg : okGap g) (q : Int) : Cov (ofL times g) q ↔ Cov (times.map (alone g)) q := by
  have := (of_fold g hg times [] (fun x hx => by simp at hx) List.Pairwise.nil).2.2.1 q
  simpa [ofL] using this
theorem of_len {times : List Int} {g : Int} (hg : okGap g) : (ofL times g).length ≤ times.length := by
  have := (of_fold g hg times [] (fun x hx => by simp at hx) List.Pairwise.nil).2.2.2
  simpa [ofL] using this
theorem alone_pos {times : List Int} {g : Int} (hg : okGap g) : Pos (times.map (alone g)) := by
  intro s hs
  obtain ⟨t, _, rfl⟩ := List.mem_map.1 hs
  unfold okGap at hg
  show t < t + g
  omega
theorem merge_alone {times : List Int} {g : Int} (hg : okGap g) : mergeS (times.map (alone g)) = ofL times g := by
  obtain ⟨h1, h2, h3, _, _⟩ := mergeS_inv (alone_pos (times := times) hg)
  exact sess_unique _ _ h1 h2 (of_pos hg) (of_ord hg) (fun q => (h3 q).trans (of_cov hg q).symm)
theorem merge_with {l : List S35} {a b : Int} (h : a < b) (hp : Pos l) (ho : Ord l) : mergeS (l ++ [⟨a, b⟩]) = withL l a b := by
  have hp' : Pos (l ++ [⟨a, b⟩]) := fun s hs => by
    rcases List.mem_append.1 hs with hs | hs
    · exact hp s hs
    · simp at hs; subst hs; exact h
  obtain ⟨h1, h2, h3, _, _⟩ := mergeS_inv hp'
  refine sess_unique _ _ h1 h2 (with_pos h hp ho) (with_ord h hp ho) (fun q => ?_)
  rw [h3 q, with_cov h hp ho, cov_append]
  simp [Cov]
def mergeL (a b : List S35) : List S35 := b.foldl (fun l s => withL l s.f0 s.f1) a
theorem mergeL_fold : ∀ (b a : List S35), Pos b → Pos a → Ord a → Pos (mergeL a b) ∧ Ord (mergeL a b) ∧ (∀ q, Cov (mergeL a b) q ↔ Cov (a ++ b) q) ∧ (mergeL a b).length ≤ a.length + b.length := by
  intro b
  induction b with
  | nil => intro a _ hp ho; exact ⟨hp, ho, fun q => by simp [mergeL], by simp [mergeL]⟩
  | cons s t ih =>
    intro a hb hp ho
    have hs : s.f0 < s.f1 := hb s (by simp)
    have h := with_pos (l := a) hs hp ho
    have h2 := with_ord (l := a) hs hp ho
    have h3 := with_cov (l := a) hs hp ho
    have h4 := with_len (l := a) hs hp ho
    obtain ⟨i1, i2, i3, i4⟩ := ih (withL a s.f0 s.f1) (fun x hx => hb x (by simp [hx])) h h2
    unfold mergeL at i1 i2 i3 i4 ⊢
    rw [List.foldl_cons]
    refine ⟨i1, i2, fun q => ?_, ?_⟩
    · rw [i3 q, cov_append, h3 q, cov_append, cov_cons, or_assoc]
    · simp only [List.length_cons]
      omega
theorem merge_both {a b : List S35} (ha : Pos a) (hao : Ord a) (hb : Pos b) : mergeS (a ++ b) = mergeL a b := by
  have hp' : Pos (a ++ b) := fun s hs => by
    rcases List.mem_append.1 hs with hs | hs
    · exact ha s hs
    · exact hb s hs
  obtain ⟨h1, h2, h3, _, _⟩ := mergeS_inv hp'
  obtain ⟨i1, i2, i3, _⟩ := mergeL_fold b a hb ha hao
  exact sess_unique _ _ h1 h2 i1 i2 (fun q => (h3 q).trans (i3 q).symm)
theorem right_pos {l : List S35} (h : RightP l) : Pos l := fun s hs => by
  have := h.2.1 s hs
  unfold okSpan at this
  omega
theorem right_ord {l : List S35} (h : RightP l) : Ord l := h.2.2

/-! ### Of, the program's -/
open Classical in
theorem of_loop (xs : List Int) (n g : Int) (hn : n = xs.length) (hg : okGap g) (hb : xs.length < 100000000000) : ∀ (d k : Nat) (acc : List S35) (i : Nat), xs.length - i = d → i ≤ xs.length → d + xs.length + 1 < k → acc.length = i →
    session_Of.l0 k g acc xs n (i : Int) = some (if ∀ t ∈ xs.drop i, okTime t then (mergeS (acc ++ (xs.drop i).map (alone g)), 0) else ([], 16)) := by
  intro d
  induction d with
  | zero =>
    intro k acc i hd hi hk ha
    obtain ⟨k, rfl⟩ : ∃ m, k = m + 1 := ⟨k - 1, by omega⟩
    simp only [session_Of.l0]
    rw [if_neg (by omega), List.drop_of_length_le (by omega), if_pos (by simp), merged_f acc (by omega) k (by omega)]
    simp
  | succ d ih =>
    intro k acc i hd hi hk ha
    obtain ⟨k, rfl⟩ : ∃ m, k = m + 1 := ⟨k - 1, by omega⟩
    have hlt : i < xs.length := by omega
    have hw := wrap_succ i (by omega)
    simp only [session_Of.l0]
    rw [if_pos (by omega), if_pos (by omega), if_pos (by omega), hw, rdI_at xs i hlt, check_f _ _ k (by omega), List.drop_eq_getElem_cons hlt]
    simp only [Option.bind_some]
    by_cases c : okTime xs[i]
    · rw [if_pos ((checkC_zero _ _).2 ⟨c, hg⟩), if_pos (by omega)]
      have hwr : wrap64 (xs[i] + g) = xs[i] + g := by
        unfold okTime at c; unfold okGap at hg
        exact wrap_small _ (by omega) (by omega)
      rw [hwr, ih k (acc ++ [(⟨xs[i], xs[i] + g⟩ : S35)]) (i + 1) (by omega) (by omega) (by omega) (by simp; omega)]
      congr 1
      have e : (∀ t ∈ xs[i] :: xs.drop (i + 1), okTime t) ↔ ∀ t ∈ xs.drop (i + 1), okTime t := by
        simp only [List.mem_cons, forall_eq_or_imp]
        exact ⟨fun h => h.2, fun h => ⟨c, h⟩⟩
      by_cases c2 : ∀ t ∈ xs.drop (i + 1), okTime t
      · rw [if_pos c2, if_pos (e.2 c2), List.map_cons, List.append_assoc]
        rfl
      · rw [if_neg c2, if_neg (fun h => c2 (e.1 h))]
    · rw [if_neg (fun h => c ((checkC_zero _ _).1 h).1), checkC_time _ _ hg c, if_neg]
      intro h
      exact c (h xs[i] List.mem_cons_self)
open Classical in
theorem of_f (xs : List Int) (g : Int) (hb : xs.length < 100000000000) (k : Nat) (hk : 2 * xs.length + 1 < k) :
    session_Of.f k xs g = some (if okGap g then (if xs.length ≤ 4000 then (if ∀ t ∈ xs, okTime t then (ofL xs g, 0) else ([], 16)) else ([], 4)) else ([], 2)) := by
  unfold session_Of.f
  rw [check_f _ _ k (by omega)]
  simp only [Option.bind_some]
  by_cases c : okGap g
  · rw [if_pos ((checkC_zero' g).2 c), if_pos c]
    by_cases c2 : xs.length ≤ 4000
    · rw [if_neg (by omega), if_pos c2]
      have := of_loop xs xs.length g rfl c hb xs.length k [] 0 (by omega) (by omega) (by omega) rfl
      rw [show ((0 : Nat) : Int) = 0 from rfl, List.drop_zero, List.nil_append, merge_alone c] at this
      exact this
    · rw [if_pos (by omega), if_neg c2]
  · rw [if_neg (fun h => c ((checkC_zero' g).1 h)), checkC_gap _ _ c, if_neg c]

/-! ### Add -/
open Classical in
noncomputable def addR (l : List S35) (t g : Int) : List S35 × Int :=
  if RightP l then (if checkC t g = 0 then (if (withL l t (t + g)).length ≤ 4000 then (withL l t (t + g), 0) else ([], 4)) else ([], checkC t g)) else ([], 8)
open Classical in
theorem add_f (l : List S35) (t g : Int) (hb : l.length < 100000000000) (k : Nat) (hk : l.length + 1 < k) : session_Add.f k l t g = some (addR l t g) := by
  unfold session_Add.f addR
  rw [right_f l (by omega) k (by omega)]
  simp only [Option.bind_some]
  by_cases c : RightP l
  · rw [decide_eq_true c, if_pos rfl, if_pos c, check_f _ _ k (by omega)]
    simp only [Option.bind_some]
    by_cases c2 : checkC t g = 0
    · obtain ⟨ct, cg⟩ := (checkC_zero t g).1 c2
      have hwr : wrap64 (t + g) = t + g := by
        unfold okTime at ct; unfold okGap at cg
        exact wrap_small _ (by omega) (by omega)
      have hpos : t < t + g := by unfold okGap at cg; omega
      rw [if_pos c2, if_pos c2, clone_f l (by omega)]
      simp only [Option.bind_some]
      rw [if_pos (by omega), hwr]
      unfold session_few.f
      rw [merged_f _ (by simp; omega) k (by simp; omega)]
      simp only [Option.bind_some]
      rw [merge_with hpos (right_pos c) (right_ord c)]
      by_cases c3 : (withL l t (t + g)).length ≤ 4000
      · rw [if_neg (by omega), if_pos c3]; simp
      · rw [if_pos (by omega), if_neg c3]; simp
    · rw [if_neg c2, if_neg c2]
  · rw [decide_eq_false c, if_neg (by simp), if_neg c]
/-! ### few -/
theorem few_loop (xs : List Int) (g : Int) : ∀ (d k i : Nat), 60 - i = d → i ≤ 60 → i ≤ xs.length → 2 * d + 3 < k →
    ∃ r, tailwaterlaw15_few.l0 k xs g (i : Int) = some r ∧ (r = true → xs.length ≤ 60 ∧ okGap g ∧ ∀ j (h : j < xs.length), i ≤ j → okTime xs[j]) := by
  have fin : ∀ (k i : Nat), (h : ∀ j (h : j < xs.length), i ≤ j → xs.length ≤ 60 → okTime xs[j]) → 1 < k → ∃ r, tailwaterlaw15_few.j1 k xs g (i : Int) false = some r ∧ (r = true → xs.length ≤ 60 ∧ okGap g ∧ ∀ j (h : j < xs.length), i ≤ j → okTime xs[j]) := by
    intro k i h hk
    obtain ⟨k, rfl⟩ : ∃ m, k = m + 1 := ⟨k - 1, by omega⟩
    simp only [tailwaterlaw15_few.j1]
    rw [if_neg (by simp)]
    by_cases c : (xs.length : Int) ≤ 60
    · rw [if_pos c, refcheck_f _ _ k (by omega)]
      refine ⟨_, rfl, fun hr => ⟨by omega, ?_, fun j hj hij => h j hj hij (by omega)⟩⟩
      exact (checkC_zero' g).1 (by simpa using hr)
    · rw [if_neg c]
      exact ⟨false, rfl, fun h => by simp at h⟩
  intro d
  induction d with
  | zero =>
    intro k i hd hi hl hk
    obtain ⟨k, rfl⟩ : ∃ m, k = m + 1 := ⟨k - 1, by omega⟩
    have : i = 60 := by omega
    subst this
    simp only [tailwaterlaw15_few.l0]
    by_cases c : ((60 : Nat) : Int) < xs.length
    · have e : decide (((60 : Nat) : Int) < 60) = false := by decide
      rw [if_pos c, e]
      exact fin k 60 (fun j hj h1 h2 => by omega) (by omega)
    · rw [if_neg c]
      exact fin k 60 (fun j hj h1 h2 => by omega) (by omega)
  | succ d ih =>
    intro k i hd hi hl hk
    obtain ⟨k, rfl⟩ : ∃ m, k = m + 2 := ⟨k - 2, by omega⟩
    simp only [tailwaterlaw15_few.l0]
    by_cases c : (i : Int) < xs.length
    · have e : decide ((i : Int) < 60) = true := decide_eq_true (by omega)
      have hw := wrap_succ i (by omega)
      rw [if_pos c, e]
      simp only [tailwaterlaw15_few.j1]
      rw [if_pos trivial, if_pos (by omega), if_pos c, rdI_at xs i (by omega), refcheck_f _ _ k (by omega), hw]
      simp only [Option.bind_some]
      by_cases c2 : checkC xs[i] g = 0
      · rw [if_pos c2]
        obtain ⟨r, h1, h2⟩ := ih k (i + 1) (by omega) (by omega) (by omega) (by omega)
        refine ⟨r, h1, fun hr => ?_⟩
        obtain ⟨h3, h4, h5⟩ := h2 hr
        refine ⟨h3, h4, fun j hj hij => ?_⟩
        rcases Nat.eq_or_lt_of_le hij with rfl | hlt
        · exact ((checkC_zero _ _).1 c2).1
        · exact h5 j hj hlt
      · rw [if_neg c2]
        exact ⟨false, rfl, fun h => by simp at h⟩
    · rw [if_neg c]
      exact fin (k + 1) i (fun j hj h1 h2 => by omega) (by omega)
theorem few_f (xs : List Int) (g : Int) (k : Nat) (hk : 130 < k) : ∃ r, tailwaterlaw15_few.f k xs g = some r ∧ (r = true → xs.length ≤ 60 ∧ okGap g ∧ ∀ t ∈ xs, okTime t) := by
  unfold tailwaterlaw15_few.f
  obtain ⟨r, h1, h2⟩ := few_loop xs g 60 k 0 (by omega) (by omega) (by omega) (by omega)
  refine ⟨r, h1, fun hr => ?_⟩
  obtain ⟨h3, h4, h5⟩ := h2 hr
  refine ⟨h3, h4, fun t ht => ?_⟩
  obtain ⟨j, hj, rfl⟩ := List.mem_iff_getElem.1 ht
  exact h5 j hj (Nat.zero_le _)

/-! ### the chapter's example -/
theorem spans1 : tailwaterlaw15_spans.f 10 [1, 9, 9, 14, 20, 25] = some [⟨1, 9⟩, ⟨9, 14⟩, ⟨20, 25⟩] := by kernel_rfl
theorem spans2 : tailwaterlaw15_spans.f 10 [1, 14, 20, 25] = some [⟨1, 14⟩, ⟨20, 25⟩] := by kernel_rfl
theorem ex1 : ofL [1, 4, 9, 20] 5 = [⟨1, 9⟩, ⟨9, 14⟩, ⟨20, 25⟩] := by rfl
theorem ex2 : withL [⟨1, 9⟩, ⟨9, 14⟩, ⟨20, 25⟩] 8 13 = [⟨1, 14⟩, ⟨20, 25⟩] := by rfl
theorem alive_f (k : Nat) (hk : 20 < k) : tailwaterlaw15_alive.f k = some true := by
  unfold tailwaterlaw15_alive.f
  have hg : okGap 5 := by unfold okGap; omega
  rw [of_f _ _ (by simp) k (by simp; omega), if_pos hg, if_pos (by simp), if_pos (by simp [okTime]), ex1]
  simp only [Option.bind_some]
  have hr : RightP [⟨1, 9⟩, ⟨9, 14⟩, ⟨20, 25⟩] := by
    unfold RightP okSpan Ord
    simp
  have ha : addR [⟨1, 9⟩, ⟨9, 14⟩, ⟨20, 25⟩] 8 5 = ([⟨1, 14⟩, ⟨20, 25⟩], 0) := by
    unfold addR
    rw [if_pos hr, if_pos ((checkC_zero _ _).2 ⟨by unfold okTime; omega, hg⟩)]
    show (if (withL [⟨1, 9⟩, ⟨9, 14⟩, ⟨20, 25⟩] 8 13).length ≤ 4000 then (withL [⟨1, 9⟩, ⟨9, 14⟩, ⟨20, 25⟩] 8 13, 0) else ([], 4)) = _
    rw [ex2, if_pos (by simp)]
  rw [add_f _ _ _ (by simp) k (by simp; omega), ha]
  simp only [Option.bind_some]
  rw [if_pos trivial, leO_up (fun k => tailwaterlaw15_spans.mono _ k) spans1 (by omega : 10 ≤ k)]
  simp only [Option.bind_some]
  rw [same_f _ _ (by simp) k (by simp; omega)]
  simp only [Option.bind_some]
  rw [if_pos (by simp), if_pos trivial, leO_up (fun k => tailwaterlaw15_spans.mono _ k) spans2 (by omega : 10 ≤ k)]
  simp only [Option.bind_some]
  rw [same_f _ _ (by simp) k (by simp; omega)]
  simp
end Go.Proofs.Ytbeldjhpbomonaa.Se
