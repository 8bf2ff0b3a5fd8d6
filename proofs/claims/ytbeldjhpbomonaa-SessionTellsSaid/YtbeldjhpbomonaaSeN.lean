/- SessionTells over lists: Add, Of and Merge hand back what the reference hands back; the law's own guard: lists that are not great. -/
import Derived.Test.YtbeldjhpbomonaaSeI
namespace Go.Proofs.Ytbeldjhpbomonaa.Se
open Go.RowKit Go.Proofs.YtbeldjhpbomonaaW.PrintWords Go.Proofs.YtbeldjhpbomonaaW.PrintLast Go.Proofs.YtbeldjhpbomonaaW.PrintMore
set_option linter.unusedVariables false

theorem great_f (n : Int) : ∃ b, tailwaterref15_Great.f n = some b ∧ (b = false → n ≤ 4002) := by
  unfold tailwaterref15_Great.f
  by_cases c1 : n > 100
  · rw [if_pos c1]
    by_cases c2 : n < 3999
    · rw [if_pos c2]
      exact ⟨true, rfl, fun h => by cases h⟩
    · rw [if_neg c2]
      exact ⟨_, rfl, fun h => by simpa using h⟩
  · rw [if_neg c1]
    exact ⟨_, rfl, fun h => by simpa using h⟩

theorem SessionTells_fun (a b : List S35) (ts : List Int) (t g : Int) : ∃ k, tailwaterlaw15_SessionTells.f k a b ts t g = some true := by
  refine Ev.rounds ?_
  have stop : Ev (fun k => tailwaterlaw15_SessionTells.j0 k a b ts t g true) true := by
    refine Ev.step (f := fun _ => some true) (fun k => ?_) (Ev.now true)
    simp [tailwaterlaw15_SessionTells.j0]
  unfold tailwaterlaw15_SessionTells.f
  obtain ⟨r1, h1, b1⟩ := great_f (a.length : Int)
  obtain ⟨r2, h2, b2⟩ := great_f (b.length : Int)
  obtain ⟨r3, h3, b3⟩ := great_f (ts.length : Int)
  rw [h1, h2, h3]
  cases r1 with
  | true => exact Ev.congr (fun k => by simp) stop
  | false =>
    cases r2 with
    | true => exact Ev.congr (fun k => by simp) stop
    | false =>
      cases r3 with
      | true => exact Ev.congr (fun k => by simp) stop
      | false =>
        have l1 := b1 rfl
        have l2 := b2 rfl
        have l3 := b3 rfl
        have same : ∀ x : List S35, x.length ≤ 100000 → Ev (fun k => tailwaterref14_Same.f k x x) true := fun x hx => ⟨100001, fun k hk => by
          show tailwaterref14_Same.f k x x = _
          rw [same_f _ _ (by omega) k (by omega)]
          simp⟩
        have rlen : ∀ x : List S35 × Int, True := fun _ => trivial
        have addLen : (addR a t g).1.length ≤ 4000 := by
          unfold addR
          split
          · split
            · split
              · assumption
              · simp
            · simp
          · simp
        have mrgLen : (mergeR a b).1.length ≤ 4000 := by
          unfold mergeR
          split
          · split
            · assumption
            · simp
          · simp
        obtain ⟨o, ho1, ho2, holen⟩ : ∃ o : List S35 × Int, (∀ k, 20000 ≤ k → session_Of.f k ts g = some o) ∧ (∀ k, 20000 ≤ k → tailwaterref15_Of.f k ts g = some o) ∧ o.1.length ≤ 4002 := by
          refine ⟨_, fun k hk => of_f ts g (by omega) k (by omega), fun k hk => refof_f ts g (by omega) k (by omega), ?_⟩
          split
          · rename_i hg
            split
            · split
              · have := of_len (times := ts) hg
                simp only
                omega
              · simp
            · simp
          · simp
        refine Ev.step (f := fun k => (session_Add.f k a t g).bind fun bt259 => ((tailwaterref15_Add.f k a t g).bind fun bt263 => ((session_Of.f k ts g).bind fun bt267 => ((tailwaterref15_Of.f k ts g).bind fun bt271 => ((session_Merge.f k a b).bind fun bt275 => ((tailwaterref15_Merge.f k a b).bind fun bt279 => ((tailwaterref14_Same.f k bt259.1 bt263.1).bind fun t283 => (if t283 = true then (if bt259.2 = bt263.2 then ((tailwaterref14_Same.f k bt267.1 bt271.1).bind fun t284 => (if t284 = true then (if bt267.2 = bt271.2 then ((tailwaterref14_Same.f k bt275.1 bt279.1).bind fun t285 => (if t285 = true then (some (bt275.2 == bt279.2)) else (some false))) else (some false)) else (some false))) else (some false)) else (some false)))))))))
          (fun k => ?_) ?_
        · simp only [Option.bind_some]
          rw [if_neg (by simp), if_neg (by simp)]
          simp only [tailwaterlaw15_SessionTells.j0]
          rw [if_neg (by simp)]
        · refine Ev.bind (a := addR a t g) ⟨20000, fun k hk => add_f a t g (by omega) k (by omega)⟩ ?_
          refine Ev.bind (a := addR a t g) ⟨20000, fun k hk => refadd_f a t g (by omega) k (by omega)⟩ ?_
          refine Ev.bind (a := o) ⟨20000, ho1⟩ ?_
          refine Ev.bind (a := o) ⟨20000, ho2⟩ ?_
          refine Ev.bind (a := mergeR a b) ⟨20000, fun k hk => merge_f a b (by omega) (by omega) k (by omega)⟩ ?_
          refine Ev.bind (a := mergeR a b) ⟨20000, fun k hk => refmerge_f a b (by omega) (by omega) k (by omega)⟩ ?_
          refine Ev.bind (same _ (by omega)) ?_
          refine Ev.congr (f := fun k => (tailwaterref14_Same.f k o.1 o.1).bind fun t284 => (if t284 = true then (if o.2 = o.2 then ((tailwaterref14_Same.f k (mergeR a b).1 (mergeR a b).1).bind fun t285 => (if t285 = true then (some ((mergeR a b).2 == (mergeR a b).2)) else (some false))) else (some false)) else (some false))) (fun k => by simp) ?_
          refine Ev.bind (same _ (by omega)) ?_
          refine Ev.congr (f := fun k => (tailwaterref14_Same.f k (mergeR a b).1 (mergeR a b).1).bind fun t285 => (if t285 = true then (some ((mergeR a b).2 == (mergeR a b).2)) else (some false))) (fun k => by simp) ?_
          refine Ev.bind (same _ (by omega)) ?_
          exact Ev.congr (f := fun _ => some true) (fun k => by simp) (Ev.now true)
end Go.Proofs.Ytbeldjhpbomonaa.Se
