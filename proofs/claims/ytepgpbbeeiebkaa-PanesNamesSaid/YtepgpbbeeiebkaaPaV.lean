/- panes.Values: the entries by panes of records whose keys are Go's numbers: what the walk hands back; conditions: as the theorem says. panes.Values: what it hands back, its errors too; condition: where there are few records their keys are Go's numbers. -/
import Derived.Test.YtepgpbbeeiebkaaPuC
import Derived.Test.YtepgpbbeeiebkaaPuA
import Derived.Test.YtepgpbbeeiebkaaStx5
import Derived.Test.YtepgpbbeeiebkaaCpt
import Derived.Deep.RegionHeld3
import Derived.Deep.AppendLies
import Derived.Maps.RangeWalk
import Derived.StillTactics
namespace Go.Proofs.Ytepgpbbeeiebkaa.St
open Go.RowKit Go.Sort Go.Proofs.YtepgpbbeeiebkaaFar Go.Proofs.YtepgpbbeeiebkaaSB Go.Proofs.YtepgpbbeeiebkaaW.PrintWords Go.Proofs.YtepgpbbeeiebkaaW.PrintLast Go.Proofs.YtepgpbbeeiebkaaW.PrintMore Go.Proofs.YtepgpbbeeiebkaaAcc Go.Proofs.YtepgpbbeeiebkaaMp Go.Proofs.YtepgpbbeeiebkaaPv
set_option linter.unusedVariables false
set_option linter.unusedSimpArgs false
attribute [local go_sem] max2_int min2_int max_two min_two max_three min_three max_four min_four

def stOf (d t : Int) : Int := t - t % d
/-- What the walk comes to: the entries, or the error of a time. -/
def ValPost (w : World) (out : Option (List S39)) (e : Ending) (w' : World) : Prop :=
  match out with
  | none => e = .returned (.tuple #[.slice none 0 0, .int .i64 16]) ∧ Below w.heap.size w w'
  | some l => ∃ v0_ : Value, e = .returned (.tuple #[v0_, .int .i64 0]) ∧ Kd.R k39 39 w' w.heap.size (fun _ => True) v0_ l ∧ Below w.heap.size w w'
/-- The entries of right windows, out of few records. -/
def valOut (sz ev : Int) (l : List S26) : Option (List S39) := if l.all (fun r => timeOk r.f1) = true then some ((valuesC (winsAt sz ev) (l.map recOf)).map (entryOf sz)) else none

set_option maxHeartbeats 4000000 in
set_option maxRecDepth 100000 in
theorem of_calls (v : Int) (W : World) : Calls Try.prog 47 #[.int .i64 v] W fun e w' => e = .returned (.agg #[.int .i64 1, .int .i64 v, .int .i64 v, .int .i64 v]) ∧ Below W.heap.size W w' :=
  accums_Of.calls v 1 v v v W rfl
theorem rec_take (l : List S26) (j : Nat) (hj : j < l.length) : (l.take (j + 1)).map recOf = (l.take j).map recOf ++ [recOf (rd_T26 l (j : Int))] := by
  have e : rd_T26 l (j : Int) = l[j] := by simp [rd_T26, hj]
  rw [List.take_succ_eq_append_getElem hj, List.map_append, e]
  rfl
theorem rd26_mem (l : List S26) (j : Nat) (hj : j < l.length) : rd_T26 l (j : Int) ∈ l := by
  have e : rd_T26 l (j : Int) = l[j] := by simp [rd_T26, hj]
  rw [e]
  exact List.getElem_mem hj
theorem mapIs_below {W W' : World} {b n : Nat} {m : M2} (h : MapIs Try.prog 104 W b n m) (hb : Below W.heap.size W W') : MapIs Try.prog 104 W' b n m := h.kept (grown_of_below hb none) (by simp)
theorem C34_map {w w1 : World} {A : Option Addr} {n b m : Nat} {mm : M2} {xs : List S34} (h : Kd.C k34 w A n xs) (hm : MapIs Try.prog 104 w b m mm) (hg : w.grownBy w1 (some b)) : Kd.C k34 w1 A n xs := by
  obtain ⟨h1, h2, h3⟩ := h
  refine ⟨h1, h2, fun h0 => ?_⟩
  obtain ⟨ad, e, hc⟩ := h3 h0
  refine ⟨ad, e, fun j p hj => ?_⟩
  obtain ⟨c, hl, hk, hcell⟩ := hc j p hj
  refine ⟨c, hl, by rw [k34_open hk]; exact k34_mk w1 p, fun i u hu => ?_⟩
  have hx := hcell i u hu
  have hlt := World.block_lt_of_cell? w _ hx
  have hb := hg.block _ hlt (fun e => by
    injection e with e
    obtain ⟨D, ⟨es, ck, hq, _⟩, _⟩ := hm
    unfold World.cell? at hx
    rw [e, hq] at hx
    cases hx)
  unfold World.cell? at hx ⊢
  rw [hb]
  exact hx
theorem pans_inv (d : Int) (l : List S26) (hl : l.length ≤ 240) (hk : ∀ r ∈ l, i64Ok r.f0 = true) (hd : 1 ≤ d) (hd2 : d ≤ 1073741824) (ht : ∀ r ∈ l, timeOk r.f1 = true) (κ : K2) (a : A4) (h : lookM (pansF (stOf d) (l.map recOf)) κ = some a) :
    okK Try.prog 104 κ ∧ (∃ ys, a = acc ys ∧ ys.length ≤ 240) ∧ i64Ok κ.1 = true ∧ -1099511627776 - d < κ.2 ∧ κ.2 ≤ 1099511627776 := by
  rw [(pansF_tells (stOf d) (l.map recOf)).2] at h
  split at h
  · cases h
  · rename_i hne
    cases h
    obtain ⟨v, hv⟩ := List.exists_mem_of_ne_nil _ hne
    obtain ⟨r, hr, _⟩ := List.mem_map.1 hv
    obtain ⟨h1, h2⟩ := List.mem_filter.1 hr
    simp only [decide_eq_true_eq] at h2
    obtain ⟨x, hx, rfl⟩ := List.mem_map.1 h1
    have h3 := hk x hx
    have h4 := ht x hx
    have m1 := Int.emod_nonneg x.f1 (show d ≠ 0 by omega)
    have m2 := Int.emod_lt_of_pos x.f1 (show 0 < d by omega)
    simp only [timeOk, Bool.and_eq_true, decide_eq_true_eq] at h4
    have e1 : κ.1 = x.f0 := by rw [← h2]; rfl
    have e2 : κ.2 = x.f1 - x.f1 % d := by rw [← h2]; rfl
    have h5 : i64Ok κ.2 = true := by
      rw [e2]
      simp only [i64Ok, Bool.and_eq_true, decide_eq_true_eq]
      omega
    refine ⟨okK104 (a := κ.1) (b := κ.2) (by rw [e1]; exact h3) h5, ⟨_, rfl, ?_⟩, by rw [e1]; exact h3, by omega, by omega⟩
    unfold vP
    rw [List.length_map]
    have := List.length_filter_le (fun r => decide ((r.1, stOf d r.2.1) = κ)) (l.map recOf)
    rw [List.length_map] at this
    omega
theorem wins_inv (sz ev d : Int) (hs : sizesOk sz ev = true) (hd : d = gcdI sz ev) (l : List S26) (hk : ∀ r ∈ l, i64Ok r.f0 = true) (ht : ∀ r ∈ l, timeOk r.f1 = true) (seen : M2) (hn : (keysM seen).Nodup) (h1 : ∀ p ∈ seen, lookM (pansF (stOf d) (l.map recOf)) p.1 = some p.2) (h2 : ∀ κ a, lookM (pansF (stOf d) (l.map recOf)) κ = some a → κ ∈ keysM seen) :
    Tells (winsF (wsOf sz ev) seen) (vals (winsAt sz ev) (l.map recOf)) ∧ ∀ κ a, lookM (winsF (wsOf sz ev) seen) κ = some a → okK Try.prog 104 κ ∧ -1100585369600 ≤ κ.2 ∧ κ.2 ≤ 1099511627776 := by
  simp only [sizesOk, Bool.and_eq_true, decide_eq_true_eq] at hs
  have hg := gcdI_spec (a := sz) (b := ev) (by omega) (by omega)
  rw [← hd] at hg
  have hT := wins_all (stOf d) (wsOf sz ev) (winsAt sz ev) (fun t => nodup_winsAt (by omega) _) (l.map recOf) (fun r hr s => by
    obtain ⟨x, hx, rfl⟩ := List.mem_map.1 hr
    have h4 := ht x hx
    simp only [timeOk, Bool.and_eq_true, decide_eq_true_eq] at h4
    have m1 := Int.emod_nonneg x.f1 (show d ≠ 0 by omega)
    refine wins_pane (by omega) (by omega) hg.1 hg.2.2.1 hg.2.2.2 x.f1 (max (stOf d x.f1) (-1099511627776)) ?_ ?_ s
    · show x.f1 - x.f1 % d ≤ max (x.f1 - x.f1 % d) (-1099511627776)
      omega
    · show max (x.f1 - x.f1 % d) (-1099511627776) ≤ x.f1
      omega) seen hn h1 h2
  refine ⟨hT, fun κ a h => ?_⟩
  rw [hT.2] at h
  split at h
  · cases h
  · rename_i hne
    obtain ⟨v, hv⟩ := List.exists_mem_of_ne_nil _ hne
    obtain ⟨r, hr, _⟩ := List.mem_map.1 hv
    obtain ⟨g1, g2⟩ := List.mem_filter.1 hr
    simp only [decide_eq_true_eq] at g2
    obtain ⟨x, hx, rfl⟩ := List.mem_map.1 g1
    have h3 := hk x hx
    have h4 := ht x hx
    simp only [timeOk, Bool.and_eq_true, decide_eq_true_eq] at h4
    have h5 := (mem_winsAt (by omega) (by omega) _ _).1 g2.2
    have h6 : (recOf x).2.1 = x.f1 := rfl
    rw [h6] at h5
    have h7 : κ.1 = x.f0 := g2.1.symm
    refine ⟨okK104 (a := κ.1) (b := κ.2) (by rw [h7]; exact h3) ?_, by omega, by omega⟩
    simp only [i64Ok, Bool.and_eq_true, decide_eq_true_eq]
    omega
theorem getA_pans (d : Int) (l : List Rec) (κ : K2) : ∃ xs, getA (pansF (stOf d) l) κ = acc xs ∧ xs.length ≤ l.length := by
  refine ⟨_, (pansF_tells (stOf d) l).get κ, ?_⟩
  unfold vP
  rw [List.length_map]
  exact List.length_filter_le _ _

set_option maxHeartbeats 8000000 in
set_option maxRecDepth 100000 in
theorem values_walk (kd sz ev d : Int) (hs : slidE kd sz ev = 0) (hd : d = gcdI sz ev) (A1 : Option Addr) (c1 : Nat) (l1 : List S26) (w : World) (hr1 : Kd.C k26 w A1 l1.length l1) (hc1 : l1.length ≤ c1) (hlen : l1.length ≤ 240) (hkeys : ∀ r ∈ l1, i64Ok r.f0 = true) :
    Calls Try.prog 33 #[.agg #[.int .u8 kd, .int .i64 sz, .int .i64 ev], .slice A1 l1.length c1] w (ValPost w (valOut sz ev l1)) := by
  obtain ⟨h1, h2, h3⟩ := slidE_zero hs
  have hsz := h3
  simp only [sizesOk, Bool.and_eq_true, decide_eq_true_eq] at hsz
  have hg := gcdI_spec (a := sz) (b := ev) (by omega) (by omega)
  rw [← hd] at hg
  obtain ⟨K, hK⟩ : ∃ K : Nat, K = ev.toNat + 20 := ⟨_, rfl⟩
  have hdv : panes_divisor.f K sz ev = some d := by rw [hd]; exact divisor_ok (by omega) (by omega) (by omega)
  have hsl : panes_sliding.f K kd sz ev = some 0 := by rw [sliding_ok kd sz ev (by omega), hs]
  have hK18 : 18 ≤ K := by omega
  have HR1 := Aside0.mk hr1
  have HC1 := Aside0.mk hc1
  have HLn := Aside0.mk hlen
  have HKs := Aside0.mk hkeys
  have HDV := Aside0.mk hdv
  have HSL := Aside0.mk hsl
  have HS := Aside0.mk hs
  have HG := Aside0.mk hg
  have HD := Aside0.mk hd
  have HSo := Aside0.mk h3
  have HSz := Aside0.mk hsz
  have HK := Aside0.mk hK18
  have hu24 := Try.underlying24
  have hlen0 : decide (240 < (l1.length : Int)) = false := decide_eq_false (by omega)
  have hlen1 : decide (240 < l1.length) = false := decide_eq_false (by omega)
  have hmm := @run_makeMap Try.prog
  have HB := Aside0.mk (Below.refl w.heap.size w)
  clear hr1 hc1 hlen hkeys hdv hsl hs hd hg hsz h1 h2 h3 hK hK18
  go_enter Try.func33, Try.ntmps33
  go_wp2_with (first | ((with_reducible refine gate_dst (N := 2) rfl ?_); refine box_event ?hg (N := 2) ?hd (cs := #[.int .u8 kd, .int .i64 sz, .int .i64 ev]) (t := 24) ?hr ?_; (case hd => rfl); (case hg => rfl); (case hr => first | (go_simp; done) | (go_simp; rfl)); intro gw hg w4 hbox hb; have n0_ := Aside0.mk (below_step HB.out hb); have n1_ := Aside0.mk (hbox); have n2_ := Aside0.mk ((by rw [hg]; exact (below_size HB.out)) : w.heap.size ≤ gw); clear HB; have HB := n0_; have BW := n1_; have GW := n2_; clear n0_ n1_ n2_; clear hb hbox hg; obtain ⟨hw0, hw1, hw2⟩ := blkc3 BW.out) | ((with_reducible refine gate_callee (f := 60) rfl ?_); refine goesL_ (some 27) rfl rfl Try.func60 (by kernel_rfl) rfl #[.agg #[.int .u8 kd, .int .i64 sz, .int .i64 ev]] rfl (by (try simp only [List.map_toArray, List.map_cons, List.map_nil]); first | done | rfl) ?_; (with_reducible refine (panes_sliding.calls K kd sz ev 0 _ HSL.out).mono ?_); rintro e w5 ⟨rfl, hb⟩; refine ⟨_, rfl, ?_⟩; have n0_ := Aside0.mk (blk_below BW.out hb); have n1_ := Aside0.mk (below_step HB.out hb); clear HB BW; have BW := n0_; have HB := n1_; clear n0_ n1_ hb hw0 hw1 hw2; obtain ⟨hw0, hw1, hw2⟩ := blkc3 BW.out) | ((with_reducible refine gate_callee (f := 61) rfl ?_); refine goesL_ (some 38) rfl rfl Try.func61 (by kernel_rfl) rfl #[.int .i64 sz, .int .i64 ev] rfl (by (try simp only [List.map_toArray, List.map_cons, List.map_nil]); first | done | rfl) ?_; (with_reducible refine (panes_divisor.calls K sz ev d _ HDV.out).mono ?_); rintro e w6 ⟨rfl, ⟨nd, rfl⟩⟩; refine ⟨_, rfl, ?_⟩))
  obtain ⟨W0, hW0⟩ : ∃ W0, (w5.drewN nd).alloc (.map #[] 0) = W0 := ⟨_, rfl⟩
  rw [hW0]
  have m0_ : MapIs Try.prog 104 W0 w5.heap.size 0 [] := by rw [← hW0]; exact MapIs.made (w5.drewN nd)
  have m1_ : Below w.heap.size w W0 := by rw [← hW0]; exact below_alloc (pw_below_drewN HB.out _) _
  have m2_ : W0.heap[gw]? = some (.cells #[.int .u8 kd, .int .i64 sz, .int .i64 ev] 24 (0, 0)) := by rw [← hW0]; exact blk_alloc (blk_drewN BW.out _) _
  have m3_ : w.heap.size ≤ w5.heap.size := below_size HB.out
  clear hW0 HB BW hw0 hw1 hw2 hmm
  generalize w5.heap.size = bm at m0_ m3_ ⊢
  have MP := Aside0.mk m0_
  have HB := Aside0.mk m1_
  have BW := Aside0.mk m2_
  have GM := Aside0.mk m3_
  clear m0_ m1_ m2_ m3_
  go_loopw [42] (fun i wr => ∃ j : Nat, j ≤ l1.length ∧ i = .int .i64 (j : Int) ∧ Aside0 (MapIs Try.prog 104 wr bm j (pansF (stOf d) ((l1.take j).map recOf))) ∧ Aside0 (Below w.heap.size w wr) ∧ Aside0 (wr.heap[gw]? = some (.cells #[.int .u8 kd, .int .i64 sz, .int .i64 ev] 24 (0, 0))) ∧ Aside0 (∀ r ∈ l1.take j, timeOk r.f1 = true)) (fun i _ => l1.length - (intOf i).toNat)
  case atStart => exact ⟨0, Nat.zero_le _, rfl, MP, HB, BW, ⟨fun r hr => absurd hr (by simp)⟩⟩
  case round =>
    clear MP HB BW
    obtain ⟨j, hj, rfl, MP, HB, BW, HT⟩ := hrel
    by_cases hlt : j < l1.length
    · have hlt0 : decide ((j : Int) < (l1.length : Int)) = true := decide_eq_true (by omega)
      have hlt1 : decide (j < l1.length) = true := decide_eq_true hlt
      obtain ⟨ad, rfl, hx0, hx1, hx2⟩ := at_T26 (Kd.C_below HR1.out HB.out) (j : Int) (by omega) (by omega)
      simp only [Int.toNat_natCast] at hx0 hx1 hx2
      have HLt := Aside0.mk hlt
      have hmem := rd26_mem l1 j hlt
      have hrt := rec_take l1 j hlt
      obtain ⟨x, hx⟩ : ∃ x, x = rd_T26 l1 (j : Int) := ⟨_, rfl⟩
      rw [← hx] at hx0 hx1 hx2 hmem hrt
      have HM := Aside0.mk hmem
      have HRt := Aside0.mk hrt
      have HXe : Aside0 (x = l1[j]) := ⟨by rw [hx]; simp [rd_T26, hlt]⟩
      clear hx hmem hrt
      by_cases htm : timeOk x.f1 = true
      · have htm2 := htm
        simp only [timeOk, Bool.and_eq_true, decide_eq_true_eq] at htm2
        have htb : tumble_Of.f K x.f1 d = some (x.f1 - x.f1 % d, x.f1 - x.f1 % d + d, 0) := by
          have h1 := HK.out
          have h2 := HG.out
          have h3 := HSz.out
          obtain ⟨q, rfl⟩ : ∃ q, K = q + 1 := ⟨K - 1, by omega⟩
          exact tumble_ok q x.f1 d (by omega) (by omega) htm2.1 htm2.2
        have hso : i64Ok (x.f1 - x.f1 % d) = true := by
          have h2 := HG.out
          have m1 := Int.emod_nonneg x.f1 (show d ≠ 0 by omega)
          have m2 := Int.emod_lt_of_pos x.f1 (show 0 < d by omega)
          have h3 := HSz.out
          simp only [i64Ok, Bool.and_eq_true, decide_eq_true_eq]
          omega
        obtain ⟨s, hs⟩ : ∃ s, s = x.f1 - x.f1 % d := ⟨_, rfl⟩
        rw [← hs] at htb hso
        have HTb := Aside0.mk htb
        have HSt := Aside0.mk hs
        have HOk := Aside0.mk (okK104 (HKs.out x HM.out) hso)
        have HTm := Aside0.mk htm
        clear htm htm2 htb hs hso
        have hgb : gw < wr.heap.size := blk_lt BW.out
        have hbl : bm < wr.heap.size := MP.out.lt
        have HGb := Aside0.mk hgb
        have HBl := Aside0.mk hbl
        clear hgb hbl
        go_upto_region 14 with ((with_reducible refine gate_callee (f := 58) rfl ?_); refine goesL_ (some 50) rfl rfl Try.func58 (by kernel_rfl) rfl #[.int .i64 x.f1, .int .i64 d] rfl (by (try simp only [List.map_toArray, List.map_cons, List.map_nil]); first | done | rfl) ?_; (with_reducible refine (tumble_Of.calls K x.f1 d s (s + d) 0 _ HTb.out).mono ?_); rintro e w7 ⟨rfl, hb⟩; refine ⟨_, rfl, ?_⟩; have n0_ : Aside0 (w7.heap[wr.heap.size]? = some (.cells #[.int .i64 x.f0, .int .i64 x.f1, .int .i64 x.f2] 26 (0, 0))) := Aside0.mk (blk_below (blk_new wr _) hb); have hbb := below_step (below_alloc (Below.refl wr.heap.size wr) _) hb; have n1_ := Aside0.mk hbb; clear hb hbb hx0 hx1 hx2; have BX := n0_; have HB2 := n1_; clear n0_ n1_; obtain ⟨hx0, hx1, hx2⟩ := blkc3 BX.out)
        obtain ⟨W2, hW2⟩ : ∃ W2, w7.alloc (.cells #[.int .i64 s, .int .i64 (s + d)] 34) = W2 := ⟨_, rfl⟩
        rw [hW2]
        have m0_ : W2.heap[wr.heap.size]? = some (.cells #[.int .i64 x.f0, .int .i64 x.f1, .int .i64 x.f2] 26 (0, 0)) := by rw [← hW2]; exact blk_alloc BX.out _
        have m1_ : W2.heap[w7.heap.size]? = some (.cells #[.int .i64 s, .int .i64 (s + d)] 34 (0, 0)) := by rw [← hW2]; exact blk_new w7 _
        have m2_ : Below wr.heap.size wr W2 := by rw [← hW2]; exact below_alloc HB2.out _
        clear hW2 BX HB2 hx0 hx1 hx2
        generalize w7.heap.size = g11 at m1_ ⊢
        obtain ⟨g10, hg10⟩ : ∃ g, g = wr.heap.size := ⟨_, rfl⟩
        rw [← hg10] at m0_ ⊢
        obtain ⟨hx0, hx1, hx2⟩ := blkc3 m0_
        obtain ⟨hs0, hs1⟩ := blkc2 m1_
        have BX := Aside0.mk m0_
        have HB2 := Aside0.mk m2_
        clear m0_ m1_ m2_ hg10
        go_upto_region 15 with (fail)
        obtain ⟨W3, hW3⟩ : ∃ W3, W2.alloc (.cells #[.int .i64 x.f0, .int .i64 s] 104) = W3 := ⟨_, rfl⟩
        rw [hW3]
        have m0_ : W3.heap[g10]? = some (.cells #[.int .i64 x.f0, .int .i64 x.f1, .int .i64 x.f2] 26 (0, 0)) := by rw [← hW3]; exact blk_alloc BX.out _
        have m1_ : W3.heap[W2.heap.size]? = some (.cells #[.int .i64 x.f0, .int .i64 s] 104 (0, 0)) := by rw [← hW3]; exact blk_new W2 _
        have m2_ : Below wr.heap.size wr W3 := by rw [← hW3]; exact below_alloc HB2.out _
        clear hW3 BX HB2 hx0 hx1 hx2 hs0 hs1
        generalize W2.heap.size = g13 at m1_ ⊢
        obtain ⟨xs, hxs, hxl⟩ := getA_pans d ((l1.take j).map recOf) (x.f0, s)
        have hjn : accums_Join.f K (acc xs).1 (acc xs).2.1 (acc xs).2.2.1 (acc xs).2.2.2 1 x.f2 x.f2 x.f2 = some ((acc (xs ++ [x.f2])).1, (acc (xs ++ [x.f2])).2.1, (acc (xs ++ [x.f2])).2.2.1, (acc (xs ++ [x.f2])).2.2.2, 0) := by
          have h1 := HK.out
          have h2 := HLn.out
          have h3 : ((l1.take j).map recOf).length ≤ 240 := by simp; omega
          obtain ⟨q, rfl⟩ : ∃ q, K = q + 1 := ⟨K - 1, by omega⟩
          exact join_ok q xs [x.f2] (by simp only [List.length_cons, List.length_nil]; omega)
        have hlk : ∀ W', Below W3.heap.size W3 W' → (Instr.lookup 102 (.map (some bm)) (.agg #[.int .i64 x.f0, .int .i64 s]) false).run Try.prog W' = .ok (.agg #[.int .i64 (acc xs).1, .int .i64 (acc xs).2.1, .int .i64 (acc xs).2.2.1, .int .i64 (acc xs).2.2.2]) W' := fun W' hb => by
          have h := (mapIs_below (mapIs_below MP.out m2_) hb).get key104 Try.underlying102 (zero36 _) HOk.out
          have e : (lookM (pansF (stOf d) ((l1.take j).map recOf)) (x.f0, s)).getD (0, 0, 0, 0) = acc xs := hxs
          rw [e] at h
          exact h
        have hput : putM (pansF (stOf d) ((l1.take j).map recOf)) (x.f0, s) (acc (xs ++ [x.f2])) = pansF (stOf d) ((l1.take (j + 1)).map recOf) := by
          have e : stOf d x.f1 = s := HSt.out.symm
          rw [HRt.out, pansF_snoc]
          show _ = putM _ (x.f0, stOf d x.f1) (joinA (getA _ (x.f0, stOf d x.f1)) (acc [x.f2]))
          rw [e, hxs, joinA_acc]
        obtain ⟨P, hP⟩ : ∃ P, P = acc xs := ⟨_, rfl⟩
        rw [← hP] at hjn
        simp only [← hP] at hlk
        obtain ⟨p0, p1, p2, p3⟩ := P
        obtain ⟨Q, hQ⟩ : ∃ Q, Q = acc (xs ++ [x.f2]) := ⟨_, rfl⟩
        rw [← hQ] at hjn hput
        clear hQ hxs hxl hP
        obtain ⟨q0, q1, q2, q3⟩ := Q
        dsimp only at hjn hlk
        have BX := Aside0.mk m0_
        have B13 := Aside0.mk m1_
        have HB3 := Aside0.mk m2_
        have HJn := Aside0.mk hjn
        have HLk := Aside0.mk hlk
        have HPut := Aside0.mk hput
        clear m0_ m1_ m2_ hjn hlk hput
        go_cut [12, 14] (fun v12 v14 wc => ∃ g14 : Nat, v12 = .int .i64 0 ∧ v14 = .pointer (some ⟨g14, 0, none⟩) ∧ Aside0 (wc.heap[g14]? = some (.cells #[.int .i64 q0, .int .i64 q1, .int .i64 q2, .int .i64 q3] 36 (0, 0))) ∧ Aside0 (Below W3.heap.size W3 wc))
        case first =>
          have hkeep : ∀ W', Below W3.heap.size W3 W' → W'.cell? ⟨g13, 0, none⟩ = some (.int .i64 x.f0) ∧ W'.cell? ⟨g13, 1, none⟩ = some (.int .i64 s) ∧ W'.cell? ⟨g10, 2, none⟩ = some (.int .i64 x.f2) ∧ (Instr.lookup 102 (.map (some bm)) (.agg #[.int .i64 x.f0, .int .i64 s]) false).run Try.prog W' = .ok (.agg #[.int .i64 p0, .int .i64 p1, .int .i64 p2, .int .i64 p3]) W' :=
            fun W' hb => ⟨(blk_cell (blk_below B13.out hb) 0).trans rfl, (blk_cell (blk_below B13.out hb) 1).trans rfl, (blk_cell (blk_below BX.out hb) 2).trans rfl, HLk.out W' hb⟩
          have HKp := Aside0.mk hkeep
          have HB4 := Aside0.mk (Below.refl W3.heap.size W3)
          clear hkeep
          go_region_held3 (fun w' => w'.cell? ⟨g13, 0, none⟩ = some (.int .i64 x.f0) ∧ w'.cell? ⟨g13, 1, none⟩ = some (.int .i64 s) ∧ w'.cell? ⟨g10, 2, none⟩ = some (.int .i64 x.f2) ∧ (Instr.lookup 102 (.map (some bm)) (.agg #[.int .i64 x.f0, .int .i64 s]) false).run Try.prog w' = .ok (.agg #[.int .i64 p0, .int .i64 p1, .int .i64 p2, .int .i64 p3]) w')
            (exact HKp.out _ (by repeat (first | exact HB4.out | apply below_drew | apply below_alloc | apply pw_below_drewN | refine below_set ?_ (by first | assumption | exact Nat.le_refl _))))
            (first | (go_at_call 47; refine (of_calls x.f2 _).mono ?_; rintro e w8 ⟨rfl, hb⟩; have n0_ := Aside0.mk (below_step (by repeat (first | exact HB4.out | apply below_drew | apply below_alloc | apply pw_below_drewN | refine below_set ?_ (by first | assumption | exact Nat.le_refl _))) hb); (try (have b14_ : Aside0 (w8.heap[W3.heap.size]? = some (.cells #[.int .i64 0, .int .i64 0, .int .i64 0, .int .i64 0] 36 (0, 0))) := Aside0.mk (blk_below (blk_new W3.drew (.cells #[.int .i64 0, .int .i64 0, .int .i64 0, .int .i64 0] 36 (0, 0))) hb))); clear HB4; have HB4 := n0_; have hs8_ := HB4.out.size; clear hb n0_) | (go_at_call 62; refine (accums_Join.calls K p0 p1 p2 p3 1 x.f2 x.f2 x.f2 q0 q1 q2 q3 0 _ HJn.out).mono ?_; rintro e w9 ⟨rfl, hb⟩; have n0_ := Aside0.mk (below_step (by repeat (first | exact HB4.out | apply below_drew | apply below_alloc | apply pw_below_drewN | refine below_set ?_ (by first | assumption | exact Nat.le_refl _))) hb); (first | (have b15_ := Aside0.mk (blk_below b14_.out hb); obtain ⟨hz0, hz1, hz2, hz3⟩ := blkc4 b15_.out; obtain ⟨hf0, hf1, hf2, hf3⟩ := blkf4 b15_.out) | (have b15_ := Aside0.mk (blk_below (blk_new _ (.cells #[.int .i64 0, .int .i64 0, .int .i64 0, .int .i64 0] 36 (0, 0))) hb); obtain ⟨hz0, hz1, hz2, hz3⟩ := blkc4 b15_.out; obtain ⟨hf0, hf1, hf2, hf3⟩ := blkf4 b15_.out) | skip); clear HB4; have HB4 := n0_; clear hb n0_))
          all_goals
            simp only [Exit.then]
            go_step
            go_meet
            case rel => exact ⟨_, rfl, rfl, ⟨by (first | (with_reducible exact blk_new _ _) | (apply blk_eq_; (with_reducible repeat (first | apply blk_set | exact b15_.out)); (first | (simp only [List.setIfInBounds_toArray, List.set_cons_zero, List.set_cons_succ]; done) | rfl)))⟩, ⟨by (with_reducible repeat (first | exact HB4.out | apply below_drew | apply below_alloc | apply pw_below_drewN | refine below_set ?_ (by first | assumption | exact Nat.le_refl _)))⟩⟩
        case rest =>
          obtain ⟨g14, rfl, rfl, B14, HB4⟩ := hcut
          obtain ⟨hq0, hq1, hq2, hq3⟩ := blkc4 B14.out
          have b13_ := blk_below B13.out HB4.out
          obtain ⟨hk0, hk1⟩ := blkc2 b13_
          have hm4 := mapIs_below (mapIs_below MP.out HB3.out) HB4.out
          have HM4 := Aside0.mk hm4
          have hj240 : j < 240 := by have := HLn.out; have := HLt.out; omega
          have hjm : j < maxLen := by unfold maxLen; omega
          have HJm := Aside0.mk hjm
          have hjI : (j : Int) ≤ 240 := by omega
          have hjI0 : (0 : Int) ≤ (j : Int) := by omega
          clear b13_ hm4 hj240 hjm
          go_wp2_with (at_mapUpdate; refine wpList_mapUpdate_is _ rfl _ _ _ 102 rfl key104 Try.underlying102 bm j _ rfl HM4.out HJm.out x.f0 s q0 q1 q2 q3 rfl rfl HOk.out ?_; intro w10 hmp hgr; have HM5 := Aside0.mk hmp; have HG5 := Aside0.mk hgr; clear hmp hgr)
          have m0_ : MapIs Try.prog 104 w10 bm (j + 1) (pansF (stOf d) ((l1.take (j + 1)).map recOf)) := by rw [← HPut.out]; exact HM5.out
          have hbw : Below w.heap.size w wc := HB.out.trans ((below_step HB3.out HB4.out).mono HB.out.size)
          have m1_ : Below w.heap.size w w10 := hbw.grown HG5.out hbw.size (fun q hq => by injection hq with hq; subst hq; exact GM.out)
          have hgw : wc.heap[gw]? = some (.cells #[.int .u8 kd, .int .i64 sz, .int .i64 ev] 24 (0, 0)) := blk_below (blk_below BW.out HB3.out) HB4.out
          have m2_ : w10.heap[gw]? = some (.cells #[.int .u8 kd, .int .i64 sz, .int .i64 ev] 24 (0, 0)) := (HG5.out.block gw (Nat.lt_of_lt_of_le HGb.out (Nat.le_trans HB3.out.size HB4.out.size)) (fun e => by
            injection e with e
            have h1 := BW.out
            rw [e] at h1
            obtain ⟨D, ⟨es, ck, h2, _⟩, _⟩ := MP.out
            rw [h1] at h2
            cases h2)).trans hgw
          have m3_ : ∀ r ∈ l1.take (j + 1), timeOk r.f1 = true := fun r hr => by
            rw [List.take_succ_eq_append_getElem HLt.out] at hr
            rcases List.mem_append.1 hr with hr | hr
            · exact HT.out r hr
            · simp only [List.mem_singleton] at hr
              have e : x = l1[j] := HXe.out
              rw [hr, ← e]
              exact HTm.out
          go_roundw
          case rel => exact ⟨j + 1, HLt.out, by go_num, ⟨m0_⟩, ⟨m1_⟩, ⟨m2_⟩, ⟨m3_⟩⟩
          case measure => have := HLt.out; simp [intOf]; omega
      · have htf : timeOk x.f1 = false := by simpa using htm
        have htb : tumble_Of.f K x.f1 d = some (0, 0, 16) := by
          have h1 := HK.out
          have h2 := HG.out
          have h3 := HSz.out
          obtain ⟨q, rfl⟩ : ∃ q, K = q + 1 := ⟨K - 1, by omega⟩
          refine tumble_bad_time q x.f1 d (by omega) (by omega) ?_
          simp only [timeOk, Bool.and_eq_false_iff, decide_eq_false_iff_not] at htf
          omega
        have hv : valOut sz ev l1 = none := by
          unfold valOut
          rw [if_neg]
          intro h
          have := List.all_eq_true.1 h x HM.out
          rw [htf] at this
          cases this
        have HTb := Aside0.mk htb
        have HV := Aside0.mk hv
        clear htm htf htb hv
        go_wp2_with ((with_reducible refine gate_callee (f := 58) rfl ?_); refine goesL_ (some 50) rfl rfl Try.func58 (by kernel_rfl) rfl #[.int .i64 x.f1, .int .i64 d] rfl (by (try simp only [List.map_toArray, List.map_cons, List.map_nil]); first | done | rfl) ?_; (with_reducible refine (tumble_Of.calls K x.f1 d 0 0 16 _ HTb.out).mono ?_); rintro e w7 ⟨rfl, hb⟩; refine ⟨_, rfl, ?_⟩; have n0_ := Aside0.mk (below_step (below_alloc HB.out _) hb); clear HB hb; have HB := n0_; clear n0_)
        go_ret2
        rw [HV.out]
        exact ⟨rfl, by repeat (first | exact HB.out | apply below_alloc)⟩
    · obtain rfl : j = l1.length := by omega
      have hall : ∀ r ∈ l1, timeOk r.f1 = true := by
        have := HT.out
        rwa [List.take_length] at this
      have hout : valOut sz ev l1 = some ((valuesC (winsAt sz ev) (l1.map recOf)).map (entryOf sz)) := by
        unfold valOut
        rw [if_pos (List.all_eq_true.2 hall)]
      have HOut := Aside0.mk hout
      have hmp := MP.out
      rw [List.take_length] at hmp
      have hcx : decide ((l1.length : Int) < (l1.length : Int)) = false := decide_eq_false (by omega)
      have HAll := Aside0.mk hall
      have hmm := @run_makeMap Try.prog
      have hgb : gw < wr.heap.size := blk_lt BW.out
      have HGb := Aside0.mk hgb
      have HBl := Aside0.mk hmp.lt
      have hnw : gw ≠ bm := fun e => by
        have h1 := BW.out
        rw [e] at h1
        obtain ⟨D, ⟨es, ck, h2, _⟩, _⟩ := hmp
        rw [h1] at h2
        cases h2
      have HNw := Aside0.mk hnw
      clear MP hall hout hlt HT hgb hnw
      have MP := Aside0.mk hmp
      clear hmp
      go_upto_region 21 with (fail)
      obtain ⟨W1, hW1⟩ : ∃ W1, wr.alloc (.map #[] 0) = W1 := ⟨_, rfl⟩
      rw [hW1]
      have m0_ : MapIs Try.prog 104 W1 wr.heap.size 0 [] := by rw [← hW1]; exact MapIs.made wr
      have m1_ : MapIs Try.prog 104 W1 bm l1.length (pansF (stOf d) (l1.map recOf)) := by rw [← hW1]; exact MP.out.kept (World.grownBy_alloc wr _ none) (by simp)
      have m2_ : Below w.heap.size w W1 := by rw [← hW1]; exact below_alloc HB.out _
      have m3_ : W1.heap[gw]? = some (.cells #[.int .u8 kd, .int .i64 sz, .int .i64 ev] 24 (0, 0)) := by rw [← hW1]; exact blk_alloc BW.out _
      have m4_ : gw < wr.heap.size ∧ bm < wr.heap.size ∧ w.heap.size ≤ wr.heap.size := ⟨HGb.out, HBl.out, HB.out.size⟩
      clear hW1 hmm MP HB BW HGb HBl
      generalize wr.heap.size = bv at m0_ m4_ ⊢
      have MV := Aside0.mk m0_
      have MP := Aside0.mk m1_
      have HB := Aside0.mk m2_
      have BW := Aside0.mk m3_
      have HO := Aside0.mk m4_
      have HO0 := Aside0.mk m4_
      clear m0_ m1_ m2_ m3_ m4_
      go_upto_block 2 with (at_range; refine wpList_range_is _ rfl _ 102 rfl key104 Try.underlying102 bm l1.length _ rfl MP.out ?_; intro w8 cnt0 hrg hgr hsz8 hcn; have HRg := Aside0.mk hrg; have HGr := Aside0.mk hgr; have HCn := Aside0.mk hcn; clear hrg hgr hsz8 hcn)
      (try simp only [Act.put, List.setIfInBounds_toArray, List.set_cons_zero, List.set_cons_succ])
      have m0_ : MapIs Try.prog 104 w8 bv 0 [] := MV.out.kept HGr.out (by simp)
      have m1_ : Below w.heap.size w w8 := HB.out.grown HGr.out HB.out.size (fun q hq => by cases hq)
      have m2_ : w8.heap[gw]? = some (.cells #[.int .u8 kd, .int .i64 sz, .int .i64 ev] 24 (0, 0)) := (HGr.out.block gw (blk_lt BW.out) (by simp)).trans BW.out
      have m3_ : bv < W1.heap.size := MV.out.lt
      have m4_ : ∀ κ α, lookM (pansF (stOf d) (l1.map recOf)) κ = some α → okK Try.prog 104 κ ∧ (∃ ys, α = acc ys ∧ ys.length ≤ 240) ∧ i64Ok κ.1 = true ∧ -1099511627776 - d < κ.2 ∧ κ.2 ≤ 1099511627776 :=
        pans_inv d l1 HLn.out HKs.out HG.out.1 (by have h1 := HG.out; have h2 := HSz.out; omega) HAll.out
      obtain ⟨PM, hPM⟩ : ∃ PM, PM = pansF (stOf d) (l1.map recOf) := ⟨_, rfl⟩
      have hrg0 := HRg.out
      rw [← hPM] at m4_ hrg0
      clear MV MP HB BW HGr HRg
      generalize W1.heap.size = r1 at m3_ hrg0 ⊢
      have MV := Aside0.mk m0_
      have HB := Aside0.mk m1_
      have BW := Aside0.mk m2_
      have HR1v := Aside0.mk m3_
      have HPk := Aside0.mk m4_
      have HRg := Aside0.mk hrg0
      have HPM := Aside0.mk hPM
      clear m0_ m1_ m2_ m3_ m4_ hrg0 hPM
      go_wp2
      go_loopw [16] (fun _ wr => ∃ (seen : M2) (cnt n : Nat), Aside0 (Ranging Try.prog 104 wr bm r1 l1.length PM seen cnt) ∧ Aside0 (seen.length + cnt ≤ 240) ∧ Aside0 (n ≤ 16 * seen.length) ∧ Aside0 (MapIs Try.prog 104 wr bv n (winsF (wsOf sz ev) seen)) ∧ Aside0 (Below w.heap.size w wr) ∧ Aside0 (wr.heap[gw]? = some (.cells #[.int .u8 kd, .int .i64 sz, .int .i64 ev] 24 (0, 0)))) (fun _ wr => wr.rangeLeft bm r1)
      case atStart => exact ⟨[], cnt0, 0, HRg, ⟨by have h1 := HCn.out; have h2 := HLn.out; simp; omega⟩, ⟨by simp⟩, MV, HB, BW⟩
      case round =>
        clear MV HB BW HRg HCn
        obtain ⟨seen, cnt, n, HRg, HCn, HN, MV, HB, BW⟩ := hrel
        have hok : ∀ κ α, lookM PM κ = some α → okK Try.prog 104 κ := fun κ α h => (HPk.out κ α h).1
        have HOk := Aside0.mk hok
        clear hok
        go_wp2_with (at_next; refine wpList_next_is _ rfl _ rfl key104 bm r1 l1.length cnt PM seen rfl HRg.out HOk.out ?_ ?_)
        · intro hdone
          have hpm := HPM.out
          subst hpm
          have hseen := HRg.out
          obtain ⟨_, _, _, _, hnd, hsl, _⟩ := hseen
          obtain ⟨hT, hwinv⟩ := wins_inv sz ev d HSo.out HD.out l1 HKs.out HAll.out seen hnd hsl (fun κ a h => by obtain ⟨x1, x2⟩ := κ; obtain ⟨y1, y2, y3, y4⟩ := a; exact hdone _ _ _ _ _ _ h)
          have hbvr : bv < wr.heap.size := MV.out.lt
          obtain ⟨WM, hWM⟩ : ∃ WM, WM = winsF (wsOf sz ev) seen := ⟨_, rfl⟩
          have hmv := MV.out
          rw [← hWM] at hT hwinv hmv
          have HT := Aside0.mk hT
          have HWi := Aside0.mk hwinv
          have HMv := Aside0.mk hmv
          have HBv := Aside0.mk hbvr
          have HNn : Aside0 (n ≤ 4000) := ⟨by have h1 := HCn.out; have h2 := HN.out; omega⟩
          clear hdone hnd hsl hT hwinv hmv hbvr hWM HRg HCn HN MV HPk HOk
          go_upto_block 6 with (at_range; refine wpList_range_is _ rfl _ 102 rfl key104 Try.underlying102 bv n _ rfl HMv.out ?_; intro w8 cnt1 hrg hgr hsz8 hcn; have HRg := Aside0.mk hrg; have HGr := Aside0.mk hgr; have HCn := Aside0.mk hcn; clear hrg hgr hsz8 hcn)
          (try simp only [Act.put, List.setIfInBounds_toArray, List.set_cons_zero, List.set_cons_succ])
          have m1_ : Below w.heap.size w w8 := HB.out.grown HGr.out HB.out.size (fun q hq => by cases hq)
          have m2_ : w8.heap[gw]? = some (.cells #[.int .u8 kd, .int .i64 sz, .int .i64 ev] 24 (0, 0)) := (HGr.out.block gw (blk_lt BW.out) (by simp)).trans BW.out
          have m3_ : bv < wr.heap.size ∧ gw < wr.heap.size := ⟨HBv.out, blk_lt BW.out⟩
          have hrg0 := HRg.out
          clear HB BW HGr HRg HBv
          generalize wr.heap.size = r2 at m3_ hrg0 ⊢
          have HB := Aside0.mk m1_
          have BW := Aside0.mk m2_
          have HR2 := Aside0.mk m3_
          have HRg := Aside0.mk hrg0
          clear m1_ m2_ m3_ hrg0
          go_wp2
          go_loopw [23, 24] (fun v23 _ wr => ∃ (seen2 : M2) (cnt : Nat), Aside0 (Ranging Try.prog 104 wr bv r2 n WM seen2 cnt) ∧ Aside0 (seen2.length + cnt ≤ 4000) ∧ Aside0 (Kd.R k39 39 wr w.heap.size (fun k_ => k_ ≠ gw ∧ k_ ≠ bv ∧ k_ ≠ r2) v23 (seen2.map (entryOf sz))) ∧ Aside0 (Below w.heap.size w wr) ∧ Aside0 (wr.heap[gw]? = some (.cells #[.int .u8 kd, .int .i64 sz, .int .i64 ev] 24 (0, 0)))) (fun _ _ wr => wr.rangeLeft bv r2)
          case atStart => exact ⟨[], cnt1, HRg, ⟨by have h1 := HCn.out; have h2 := HNn.out; simp; omega⟩, ⟨Kd.R_nil _ _ _ _ _⟩, HB, BW⟩
          case round =>
            clear HB BW HRg HCn
            obtain ⟨seen2, cnt, HRg, HCn, HO, HB, BW⟩ := hrel
            have hok : ∀ κ α, lookM WM κ = some α → okK Try.prog 104 κ := fun κ α h => (HWi.out κ α h).1
            have HOk := Aside0.mk hok
            clear hok
            go_wp2_with (at_next; refine wpList_next_is _ rfl _ rfl key104 bv r2 n cnt WM seen2 rfl HRg.out HOk.out ?_ ?_)
            · intro hdone
              have hseen := HRg.out
              obtain ⟨_, _, _, _, hnd, hsl, _⟩ := hseen
              have hval := sorted_values sz ev (l1.map recOf) HT.out hnd hsl (fun κ a h => by obtain ⟨x1, x2⟩ := κ; obtain ⟨y1, y2, y3, y4⟩ := a; exact hdone _ _ _ _ _ _ h)
              have HVl := Aside0.mk hval
              have hlen : (seen2.map (entryOf sz)).length < 4611686018427387904 := by have h1 := HCn.out; rw [List.length_map]; omega
              have HLe := Aside0.mk hlen
              clear hdone hnd hsl hval hlen
              go_wp2_with ((with_reducible refine gate_callee (f := 63) rfl ?_); refine goesL_ (some 146) rfl rfl Try.func63 (by kernel_rfl) rfl #[u23, .func (.func 64) #[] #[]] rfl (by (try simp only [List.map_toArray, List.map_cons, List.map_nil]); first | done | rfl) ?_; (refine (sortEn_calls _ u23 (seen2.map (entryOf sz)) w _ HB.out HO.out HLe.out).mono ?_); rintro e w11 ⟨rfl, ho, hb⟩; refine ⟨_, rfl, ?_⟩; have n0_ := Aside0.mk ho; have n1_ := Aside0.mk hb; clear HO HB ho hb; have HO := n0_; have HB := n1_; clear n0_ n1_)
              go_ret2
              rw [HOut.out]
              refine ⟨_, rfl, ?_, HB.out⟩
              rw [← HVl.out]
              exact Kd.R_mono HO.out (fun _ _ => trivial)
            · intro k1 k2 a1 a2 a3 a4 w9 cnt' hk12 hlook hnin hrg hlt hgr hsz9 hen
              go_upto_region 39 with (fail)
              obtain ⟨W2, hW2⟩ : ∃ W2, (w9.alloc (.cells #[.int .i64 k1, .int .i64 k2] 104)).alloc (.cells #[.int .i64 a1, .int .i64 a2, .int .i64 a3, .int .i64 a4] 36) = W2 := ⟨_, rfl⟩
              rw [hW2]
              have hb9 : Below w9.heap.size w9 W2 := by rw [← hW2]; exact below_alloc (below_alloc (Below.refl _ _) _) _
              have m0_ : W2.heap[wr.heap.size]? = some (.cells #[.int .i64 k1, .int .i64 k2] 104 (0, 0)) := by rw [← hW2, ← hsz9]; exact blk_alloc (blk_new w9 _) _
              have m1_ : W2.heap[wr.heap.size + 1]? = some (.cells #[.int .i64 a1, .int .i64 a2, .int .i64 a3, .int .i64 a4] 36 (0, 0)) := by
                have h := blk_new (w9.alloc (.cells #[.int .i64 k1, .int .i64 k2] 104)) (.cells #[.int .i64 a1, .int .i64 a2, .int .i64 a3, .int .i64 a4] 36 (0, 0))
                rw [World.size_alloc, hsz9, hW2] at h
                exact h
              have m2_ : Ranging Try.prog 104 W2 bv r2 n WM (seen2 ++ [((k1, k2), (a1, a2, a3, a4))]) cnt' := hrg.kept (grown_of_below hb9 none) (by simp) (by simp)
              have hwr2 : w.heap.size ≤ r2 := by have h1 := HO0.out; have h2 := HR2.out; omega
              have hB9 : Below w.heap.size w w9 := HB.out.grown hgr HB.out.size (fun q hq => by injection hq with hq; subst hq; exact hwr2)
              have m4_ : Below w.heap.size w W2 := below_step hB9 hb9
              have m5_ : W2.heap[gw]? = some (.cells #[.int .u8 kd, .int .i64 sz, .int .i64 ev] 24 (0, 0)) := blk_below ((hgr.block gw (blk_lt BW.out) (by have h2 := HR2.out; simp; omega)).trans BW.out) hb9
              have m6_ : Kd.R k39 39 W2 w.heap.size (fun k_ => k_ ≠ gw ∧ k_ ≠ bv ∧ k_ ≠ r2) u23 (seen2.map (entryOf sz)) := Kd.R_below (Kd.R_grown HO.out hgr (fun k hk => by simp; exact hk.2.2)) hb9
              have m7_ : (seen2 ++ [((k1, k2), (a1, a2, a3, a4))]).length + cnt' ≤ 4000 := by have h1 := HCn.out; simp; omega
              have m8_ : r2 < W2.heap.size ∧ bv < W2.heap.size ∧ gw < W2.heap.size := by
                have h1 := m2_.lt
                exact ⟨h1.2.1, h1.1, blk_lt m5_⟩
              have hkb := HWi.out _ _ hlook
              have hkb1 := hkb.2.1
              have hkb2 := hkb.2.2
              have hmeas : cnt' < cnt := hlt
              have hme2 : wr.rangeLeft bv r2 = cnt := HRg.out.left_eq
              have HMe := Aside0.mk hmeas
              have HMe2 := Aside0.mk hme2
              have hsz1 := HSz.out.1.1.1.1
              have hsz2 := HSz.out.1.1.2
              clear hW2 hb9 hrg hgr hlt hsz9 hen hlook hnin HRg HCn HO HB BW hmeas hme2 hwr2 hB9 hkb hk12
              obtain ⟨g24, hg24⟩ : ∃ g, g = wr.heap.size := ⟨_, rfl⟩
              rw [← hg24] at m0_ m1_ ⊢
              clear hg24
              obtain ⟨hk0, hk1⟩ := blkc2 m0_
              obtain ⟨ha0, ha1, ha2, ha3⟩ := blkc4 m1_
              obtain ⟨hw0, hw1, hw2⟩ := blkc3 m5_
              have HRg := Aside0.mk m2_
              have HB := Aside0.mk m4_
              have BW := Aside0.mk m5_
              have HO := Aside0.mk m6_
              have HCn := Aside0.mk m7_
              have HL8 := Aside0.mk m8_
              clear m0_ m1_ m2_ m4_ m5_ m6_ m7_ m8_
              go_wp2_with ((with_reducible refine gate_builtin (b := .append) (xs := #[.tmp 129, .tmp 143]) rfl ?_); at_builtin; refine Kd.R_append k39 (w0 := w) w.heap.size rfl (.tmp 129) (.tmp 143) 22 39 (.agg #[(.int .i64 0), (.int .i64 0), (.int .i64 0), (.int .i64 0), (.int .i64 0), (.int .i64 0), (.int .i64 0), (.int .i64 0), (.int .i64 0), (.int .i64 0), (.int .i64 0)]) 88 rfl Try.underlying22 info39 rfl (by decide) (by omega) u23 (seen2.map (entryOf sz)) (entryOf sz ((k1, k2), (a1, a2, a3, a4))) [.int .i64 k1, .int .i64 k2, .int .i64 (k2 + sz), .int .i64 a1, .int .i64 a2, .int .i64 a3, .int .i64 a4, .int .i64 0, .int .i64 0, .int .i64 0, .int .i64 0] (fun k_ => k_ ≠ gw ∧ k_ ≠ bv ∧ k_ ≠ r2) (fun _ => False) rfl rfl ?aP (fun _ hk => hk.elim) ?aF ?aO ?aB ?aS ?aL ?_; (case aP => exact k39_mkM _ _ _ (entryOf sz ((k1, k2), (a1, a2, a3, a4)))); (case aF => exact fun k_ hk => by have h8 := HL8.out; refine ⟨?_, ?_, ?_⟩ <;> omega); (case aO => exact HO.out); (case aB => exact HB.out); (case aS => exact HB.out.size); (case aL => have h7 := HCn.out; rw [List.length_map]; simp only [List.length_append, List.length_singleton] at h7; omega); intro v1 w13 ho1 hb1 hg1 hat1; have HQ := Aside0.mk ho1; have HB1 := Aside0.mk hb1; have HG1 := Aside0.mk hg1; clear ho1 hb1 hg1 hat1)
              have n0_ : Ranging Try.prog 104 w13 bv r2 n WM (seen2 ++ [((k1, k2), (a1, a2, a3, a4))]) cnt' := HRg.out.kept HG1.out (Kd.R_away HO.out (fun _ hk => hk.2.1)) (Kd.R_away HO.out (fun _ hk => hk.2.2))
              have n1_ : w13.heap[gw]? = some (.cells #[.int .u8 kd, .int .i64 sz, .int .i64 ev] 24 (0, 0)) := (HG1.out.block gw (blk_lt BW.out) (Kd.R_away HO.out (fun _ hk => hk.1))).trans BW.out
              have n2_ : Kd.R k39 39 w13 w.heap.size (fun k_ => k_ ≠ gw ∧ k_ ≠ bv ∧ k_ ≠ r2) v1 ((seen2 ++ [((k1, k2), (a1, a2, a3, a4))]).map (entryOf sz)) := by
                rw [List.map_append]
                exact HQ.out
              go_roundw
              case rel => exact ⟨_, cnt', ⟨n0_⟩, HCn, ⟨n2_⟩, HB1, ⟨n1_⟩⟩
              case measure => rw [n0_.left_eq]; have h1 := HMe.out; have h2 := HMe2.out; omega
        · intro k1 k2 a1 a2 a3 a4 w9 cnt' hk12 hlook hnin hrg hlt hgr hsz9 hen
          go_upto_region 24 with (fail)
          obtain ⟨W2, hW2⟩ : ∃ W2, (w9.alloc (.cells #[.int .i64 k1, .int .i64 k2] 104)).alloc (.cells #[.int .i64 a1, .int .i64 a2, .int .i64 a3, .int .i64 a4] 36) = W2 := ⟨_, rfl⟩
          rw [hW2]
          have hb9 : Below w9.heap.size w9 W2 := by rw [← hW2]; exact below_alloc (below_alloc (Below.refl _ _) _) _
          have m0_ : W2.heap[wr.heap.size]? = some (.cells #[.int .i64 k1, .int .i64 k2] 104 (0, 0)) := by rw [← hW2, ← hsz9]; exact blk_alloc (blk_new w9 _) _
          have m1_ : W2.heap[wr.heap.size + 1]? = some (.cells #[.int .i64 a1, .int .i64 a2, .int .i64 a3, .int .i64 a4] 36 (0, 0)) := by
            have h := blk_new (w9.alloc (.cells #[.int .i64 k1, .int .i64 k2] 104)) (.cells #[.int .i64 a1, .int .i64 a2, .int .i64 a3, .int .i64 a4] 36 (0, 0))
            rw [World.size_alloc, hsz9, hW2] at h
            exact h
          have m2_ : Ranging Try.prog 104 W2 bm r1 l1.length PM (seen ++ [((k1, k2), (a1, a2, a3, a4))]) cnt' := hrg.kept (grown_of_below hb9 none) (by simp) (by simp)
          have hbr : bv ≠ r1 := Nat.ne_of_lt HR1v.out
          have m3_ : MapIs Try.prog 104 W2 bv n (winsF (wsOf sz ev) seen) := mapIs_below (MV.out.kept hgr (by simp [hbr])) hb9
          have hwr1 : w.heap.size ≤ r1 := by have h1 := HO.out; have h2 := HR1v.out; omega
          have hB9 : Below w.heap.size w w9 := HB.out.grown hgr HB.out.size (fun q hq => by injection hq with hq; subst hq; exact hwr1)
          have m4_ : Below w.heap.size w W2 := below_step hB9 hb9
          have m5_ : W2.heap[gw]? = some (.cells #[.int .u8 kd, .int .i64 sz, .int .i64 ev] 24 (0, 0)) := blk_below ((hgr.block gw (blk_lt BW.out) (by have h1 := HO.out; have h2 := HR1v.out; simp; omega)).trans BW.out) hb9
          have m6_ := HPk.out _ _ hlook
          have m7_ : (seen ++ [((k1, k2), (a1, a2, a3, a4))]).length + cnt' ≤ 240 := by have h1 := HCn.out; simp; omega
          have m8_ : r1 < wr.heap.size ∧ bm < wr.heap.size := ⟨HRg.out.lt.2.1, HRg.out.lt.1⟩
          have m9_ : ∀ p ∈ seen, lookM PM p.1 = some p.2 := by obtain ⟨_, _, _, _, _, h, _⟩ := HRg.out; exact h
          have hmeas : cnt' < cnt := hlt
          have hme2 : wr.rangeLeft bm r1 = cnt := HRg.out.left_eq
          have HMe := Aside0.mk hmeas
          have HMe2 := Aside0.mk hme2
          clear hW2 hb9 hrg hgr hlt hsz9 hen hlook hnin HRg HCn MV HB BW hmeas hme2 hbr hwr1 hB9
          obtain ⟨g16, hg16⟩ : ∃ g, g = wr.heap.size := ⟨_, rfl⟩
          rw [← hg16] at m0_ m1_ m8_ ⊢
          clear hg16
          obtain ⟨hk0, hk1⟩ := blkc2 m0_
          obtain ⟨ha0, ha1, ha2, ha3⟩ := blkc4 m1_
          obtain ⟨hw0, hw1, hw2⟩ := blkc3 m5_
          have B16 := Aside0.mk m0_
          have B17 := Aside0.mk m1_
          have HRg := Aside0.mk m2_
          have MV := Aside0.mk m3_
          have HB := Aside0.mk m4_
          have BW := Aside0.mk m5_
          have HKa := Aside0.mk m6_
          have HCn := Aside0.mk m7_
          have HLt8 := Aside0.mk m8_
          have HSeen := Aside0.mk m9_
          clear m0_ m1_ m2_ m3_ m4_ m5_ m6_ m7_ m8_ m9_
          obtain ⟨t', ht'⟩ : ∃ t', t' = max k2 (-1099511627776) := ⟨_, rfl⟩
          have hmx : (if k2 < -1099511627776 then (-1099511627776 : Int) else k2) = t' := by rw [ht']; split <;> omega
          have hto : timeOk t' = true := by
            have h1 := HKa.out
            simp only [timeOk, Bool.and_eq_true, decide_eq_true_eq]
            omega
          have hsp : slide_Of.f K kd sz ev t' = some (spansAt sz ev t', 0) := slideOf_ok HS.out hto HK.out
          have hws : spansAt sz ev t' = (wsOf sz ev k2).map fun s => (⟨s, s + sz⟩ : S34) := by rw [ht']; rfl
          have hwl : (wsOf sz ev k2).length ≤ 16 := by
            have h1 := HSz.out
            unfold wsOf
            rw [winsAt_length]
            exact winN_le (by omega) (by omega) (by omega) _
          obtain ⟨SL, hSL⟩ : ∃ SL, SL = (wsOf sz ev k2).map fun s => (⟨s, s + sz⟩ : S34) := ⟨_, rfl⟩
          have hSl : SL.length = (wsOf sz ev k2).length := by rw [hSL, List.length_map]
          rw [hws, ← hSL] at hsp
          have HSL := Aside0.mk hSL
          have HSl := Aside0.mk hSl
          clear hSL hSl
          have HSp := Aside0.mk hsp
          have HWl := Aside0.mk hwl
          clear ht' hto hsp hws hwl
          go_upto_block 4 with ((with_reducible refine gate_callee (f := 29) rfl ?_); refine goesL_ (some 91) rfl rfl Try.func29 (by kernel_rfl) rfl #[.agg #[.int .u8 kd, .int .i64 sz, .int .i64 ev], .int .i64 t'] rfl (by (try simp only [List.map_toArray, List.map_cons, List.map_nil]); first | done | rfl) ?_; (with_reducible refine (slide_Of.calls K kd sz ev t' SL 0 _ HSp.out).mono ?_); rintro e w10 ⟨v18, rfl, ho, hb⟩; refine ⟨_, rfl, ?_⟩; obtain ⟨As, cs, rfl⟩ := Kd.R_slice ho; have n0_ := Aside0.mk (Kd.R_reads' ho).2.2; have n1_ := Aside0.mk (blk_below B16.out hb); have n2_ := Aside0.mk (blk_below B17.out hb); have n3_ := Aside0.mk (HRg.out.kept (grown_of_below hb none) (by simp) (by simp)); have n4_ := Aside0.mk (mapIs_below MV.out hb); have n5_ := Aside0.mk (below_step HB.out hb); have n6_ := Aside0.mk (blk_below BW.out hb); clear B16 B17 HRg MV HB BW hb ho hk0 hk1 ha0 ha1 ha2 ha3 hw0 hw1 hw2; have HC := n0_; have B16 := n1_; have B17 := n2_; have HRg := n3_; have MV := n4_; have HB := n5_; have BW := n6_; clear n0_ n1_ n2_ n3_ n4_ n5_ n6_)
          (try simp only [Act.put, List.setIfInBounds_toArray, List.set_cons_zero, List.set_cons_succ])
          clear hmx
          clear HSp
          go_wp2
          go_loopw [19, 99] (fun v19 i wr => ∃ (jj n' : Nat), v19 = .int .i64 0 ∧ i = .int .i64 (jj : Int) ∧ Aside0 (jj ≤ SL.length) ∧ Aside0 (n' ≤ 16 * seen.length + jj) ∧ Aside0 (MapIs Try.prog 104 wr bv n' (winStep (winsF (wsOf sz ev) seen) k1 (a1, a2, a3, a4) ((wsOf sz ev k2).take jj))) ∧ Aside0 (Ranging Try.prog 104 wr bm r1 l1.length PM (seen ++ [((k1, k2), (a1, a2, a3, a4))]) cnt') ∧ Aside0 (Below w.heap.size w wr) ∧ Aside0 (wr.heap[gw]? = some (.cells #[.int .u8 kd, .int .i64 sz, .int .i64 ev] 24 (0, 0))) ∧ Aside0 (wr.heap[g16]? = some (.cells #[.int .i64 k1, .int .i64 k2] 104 (0, 0))) ∧ Aside0 (wr.heap[g16 + 1]? = some (.cells #[.int .i64 a1, .int .i64 a2, .int .i64 a3, .int .i64 a4] 36 (0, 0))) ∧ Aside0 (Kd.C k34 wr As SL.length SL)) (fun _ i _ => SL.length - (intOf i).toNat)
          case atStart => exact ⟨0, n, rfl, rfl, ⟨Nat.zero_le _⟩, ⟨by have := HN.out; omega⟩, MV, HRg, HB, BW, B16, B17, HC⟩
          case round =>
            clear MV HRg HB BW B16 B17 HC
            obtain ⟨jj, n', rfl, rfl, HJ, HN', MV, HRg, HB, BW, B16, B17, HC⟩ := hrel
            by_cases hlt : jj < SL.length
            · have hlt0 : decide ((jj : Int) < (SL.length : Int)) = true := decide_eq_true (by omega)
              obtain ⟨ad, rfl, hx0, hx1⟩ := at_T34 HC.out (jj : Int) (by omega) (by omega)
              simp only [Int.toNat_natCast] at hx0 hx1
              have hjw : jj < (wsOf sz ev k2).length := by have := HSl.out; omega
              obtain ⟨s, hs⟩ : ∃ s, s = (wsOf sz ev k2)[jj] := ⟨_, rfl⟩
              have hrd : rd_T34 SL (jj : Int) = ⟨s, s + sz⟩ := by rw [HSL.out]; simp [rd_T34, hjw, hs]
              rw [hrd] at hx0 hx1
              have htk : (wsOf sz ev k2).take (jj + 1) = (wsOf sz ev k2).take jj ++ [s] := by rw [List.take_succ_eq_append_getElem hjw, hs]
              have hsm : s ∈ wsOf sz ev k2 := by rw [hs]; exact List.getElem_mem _
              have hso : okK Try.prog 104 (k1, s) := by
                have h1 := HSz.out
                have h2 := HKa.out
                have h3 := HG.out
                unfold wsOf at hsm
                have h4 := (mem_winsAt (by omega) (by omega) _ _).1 hsm
                refine okK104 h2.2.2.1 ?_
                simp only [i64Ok, Bool.and_eq_true, decide_eq_true_eq]
                omega
              obtain ⟨mw, hmw⟩ : ∃ mw, mw = winStep (winsF (wsOf sz ev) seen) k1 (a1, a2, a3, a4) ((wsOf sz ev k2).take jj) := ⟨_, rfl⟩
              obtain ⟨xs, ys, hxs, hys, hle⟩ : ∃ xs ys, getA mw (k1, s) = acc xs ∧ (a1, a2, a3, a4) = acc ys ∧ xs.length + ys.length ≤ 1073741824 := by
                obtain ⟨ys, hys, hyl⟩ := HKa.out.2.1
                have h16 : ∀ t, (wsOf sz ev t).length ≤ 16 := fun t => by
                  have h1 := HSz.out
                  unfold wsOf
                  rw [winsAt_length]
                  exact winN_le (by omega) (by omega) (by omega) _
                have hB := bnd_step (bnd_wins (wsOf sz ev) h16 240 seen (fun p hp => (HPk.out _ _ (HSeen.out p hp)).2.1)) k1 ys hyl ((wsOf sz ev k2).take jj)
                rw [← hys, ← hmw] at hB
                obtain ⟨xs, hxs, hxl⟩ := hB (k1, s)
                refine ⟨xs, ys, hxs, hys, ?_⟩
                have h1 := HCn.out
                have h2 := List.length_take_le jj (wsOf sz ev k2)
                have h3 := HWl.out
                simp only [List.length_append, List.length_singleton] at h1
                have h4 : seen.length * (16 * 240) ≤ 240 * (16 * 240) := Nat.mul_le_mul_right _ (by omega)
                have h5 : ((wsOf sz ev k2).take jj).length * 240 ≤ 16 * 240 := Nat.mul_le_mul_right _ (by rw [List.length_take]; omega)
                omega
              have hjn : accums_Join.f K (acc xs).1 (acc xs).2.1 (acc xs).2.2.1 (acc xs).2.2.2 a1 a2 a3 a4 = some ((acc (xs ++ ys)).1, (acc (xs ++ ys)).2.1, (acc (xs ++ ys)).2.2.1, (acc (xs ++ ys)).2.2.2, 0) := by
                have h1 := HK.out
                obtain ⟨q, rfl⟩ : ∃ q, K = q + 1 := ⟨K - 1, by omega⟩
                have h := join_ok q xs ys hle
                rw [← hys] at h
                exact h
              have hput : putM mw (k1, s) (acc (xs ++ ys)) = winStep (winsF (wsOf sz ev) seen) k1 (a1, a2, a3, a4) ((wsOf sz ev k2).take (jj + 1)) := by
                rw [htk, winStep_snoc, ← hmw, hxs, hys, joinA_acc]
              have hmv := MV.out
              rw [← hmw] at hmv
              have hlk : ∀ W', Below wr.heap.size wr W' → (Instr.lookup 102 (.map (some bv)) (.agg #[.int .i64 k1, .int .i64 s]) false).run Try.prog W' = .ok (.agg #[.int .i64 (acc xs).1, .int .i64 (acc xs).2.1, .int .i64 (acc xs).2.2.1, .int .i64 (acc xs).2.2.2]) W' := fun W' hb => by
                have h := (mapIs_below hmv hb).get key104 Try.underlying102 (zero36 _) hso
                have e : (lookM mw (k1, s)).getD (0, 0, 0, 0) = acc xs := hxs
                rw [e] at h
                exact h
              obtain ⟨P, hP⟩ : ∃ P, P = acc xs := ⟨_, rfl⟩
              rw [← hP] at hjn
              simp only [← hP] at hlk
              obtain ⟨p0, p1, p2, p3⟩ := P
              obtain ⟨Q, hQ⟩ : ∃ Q, Q = acc (xs ++ ys) := ⟨_, rfl⟩
              rw [← hQ] at hjn hput
              obtain ⟨q0, q1, q2, q3⟩ := Q
              dsimp only at hjn hlk
              have HJn := Aside0.mk hjn
              have HLk := Aside0.mk hlk
              have HPut := Aside0.mk hput
              have HOs := Aside0.mk hso
              have HMv := Aside0.mk hmv
              have HLt := Aside0.mk hlt
              have HBig : Aside0 (n' < maxLen) := ⟨by have h1 := HN'.out; have h2 := HCn.out; have h3 := HSl.out; have h4 := HWl.out; simp only [List.length_append, List.length_singleton] at h2; unfold maxLen; omega⟩
              have hjI : (jj : Int) ≤ 16 := by have h3 := HSl.out; have h4 := HWl.out; omega
              have hjI0 : (0 : Int) ≤ (jj : Int) := by omega
              clear hs hrd htk hsm hso hxs hys hle hjn hput hmv hlk hP hQ hjw MV
              go_upto_region 30 with (fail)
              obtain ⟨W2, hW2⟩ : ∃ W2, wr.alloc (.cells #[.int .i64 s, .int .i64 (s + sz)] 34) = W2 := ⟨_, rfl⟩
              rw [hW2]
              have m0_ : W2.heap[g16]? = some (.cells #[.int .i64 k1, .int .i64 k2] 104 (0, 0)) := by rw [← hW2]; exact blk_alloc B16.out _
              have m1_ : W2.heap[wr.heap.size]? = some (.cells #[.int .i64 s, .int .i64 (s + sz)] 34 (0, 0)) := by rw [← hW2]; exact blk_new wr _
              have m2_ : Below wr.heap.size wr W2 := by rw [← hW2]; exact below_alloc (Below.refl _ _) _
              obtain ⟨g21, hg21⟩ : ∃ g, g = wr.heap.size := ⟨_, rfl⟩
              rw [← hg21] at m1_ ⊢
              clear hW2 hx0 hx1 hg21
              obtain ⟨hk0, hk1⟩ := blkc2 m0_
              obtain ⟨hs0, hs1⟩ := blkc2 m1_
              have HB2 := Aside0.mk m2_
              clear m0_ m1_ m2_
              go_upto_region 31 with (fail)
              obtain ⟨W3, hW3⟩ : ∃ W3, W2.alloc (.cells #[.int .i64 k1, .int .i64 s] 104) = W3 := ⟨_, rfl⟩
              rw [hW3]
              have m1_ : W3.heap[W2.heap.size]? = some (.cells #[.int .i64 k1, .int .i64 s] 104 (0, 0)) := by rw [← hW3]; exact blk_new W2 _
              have m2_ : Below wr.heap.size wr W3 := by rw [← hW3]; exact below_alloc HB2.out _
              clear hW3 HB2 hk0 hk1 hs0 hs1
              generalize W2.heap.size = g22 at m1_ ⊢
              obtain ⟨hk0, hk1⟩ := blkc2 m1_
              obtain ⟨ha0, ha1, ha2, ha3⟩ := blkc4 (blk_below B17.out m2_)
              have hlk2 := HLk.out W3.drew (below_drew m2_)
              have HB3 := Aside0.mk m2_
              have B22 := Aside0.mk m1_
              clear m1_ m2_
              -- REGION31
              have hkeep : ∀ W', Below W3.heap.size W3 W' → W'.cell? ⟨g22, 0, none⟩ = some (.int .i64 k1) ∧ W'.cell? ⟨g22, 1, none⟩ = some (.int .i64 s) ∧ W'.cell? ⟨g16 + 1, 0, none⟩ = some (.int .i64 a1) ∧ W'.cell? ⟨g16 + 1, 1, none⟩ = some (.int .i64 a2) ∧ W'.cell? ⟨g16 + 1, 2, none⟩ = some (.int .i64 a3) ∧ W'.cell? ⟨g16 + 1, 3, none⟩ = some (.int .i64 a4) :=
                fun W' hb => by
                  have h17 := blk_below (blk_below B17.out HB3.out) hb
                  exact ⟨(blk_cell (blk_below B22.out hb) 0).trans rfl, (blk_cell (blk_below B22.out hb) 1).trans rfl, (blk_cell h17 0).trans rfl, (blk_cell h17 1).trans rfl, (blk_cell h17 2).trans rfl, (blk_cell h17 3).trans rfl⟩
              have hkeep2 : ∀ V W', Below W3.heap.size W3 V → V.grownBy W' (some bv) → W'.cell? ⟨g22, 0, none⟩ = some (.int .i64 k1) ∧ W'.cell? ⟨g22, 1, none⟩ = some (.int .i64 s) ∧ W'.cell? ⟨g16 + 1, 0, none⟩ = some (.int .i64 a1) ∧ W'.cell? ⟨g16 + 1, 1, none⟩ = some (.int .i64 a2) ∧ W'.cell? ⟨g16 + 1, 2, none⟩ = some (.int .i64 a3) ∧ W'.cell? ⟨g16 + 1, 3, none⟩ = some (.int .i64 a4) :=
                fun V W' hb hg => by
                  have hne : ∀ (g : Nat) (cs : Array Value) (ty : TypeId), V.heap[g]? = some (.cells cs ty (0, 0)) → W'.heap[g]? = some (.cells cs ty (0, 0)) := fun g cs ty h => (hg.block g (blk_lt h) (fun e => by
                    injection e with e
                    rw [e] at h
                    obtain ⟨D, ⟨es, ck, h2, _⟩, _⟩ := mapIs_below HMv.out (below_step HB3.out hb)
                    rw [h] at h2
                    cases h2)).trans h
                  have h17 := hne _ _ _ (blk_below (blk_below B17.out HB3.out) hb)
                  have h22 := hne _ _ _ (blk_below B22.out hb)
                  exact ⟨(blk_cell h22 0).trans rfl, (blk_cell h22 1).trans rfl, (blk_cell h17 0).trans rfl, (blk_cell h17 1).trans rfl, (blk_cell h17 2).trans rfl, (blk_cell h17 3).trans rfl⟩
              have HKp := Aside0.mk hkeep
              have HKp2 := Aside0.mk hkeep2
              have HB4 := Aside0.mk (Below.refl W3.heap.size W3)
              clear hkeep hkeep2 hk0 hk1 ha0 ha1 ha2 ha3
              go_region_held3 (fun w' => w'.cell? ⟨g22, 0, none⟩ = some (.int .i64 k1) ∧ w'.cell? ⟨g22, 1, none⟩ = some (.int .i64 s) ∧ w'.cell? ⟨g16 + 1, 0, none⟩ = some (.int .i64 a1) ∧ w'.cell? ⟨g16 + 1, 1, none⟩ = some (.int .i64 a2) ∧ w'.cell? ⟨g16 + 1, 2, none⟩ = some (.int .i64 a3) ∧ w'.cell? ⟨g16 + 1, 3, none⟩ = some (.int .i64 a4))
                (first | exact HKp2.out _ _ HB4.out HG5.out | exact HKp.out _ (by repeat (first | exact HB4.out | apply below_drew | apply below_alloc | apply pw_below_drewN)))
                (first | (go_at_call 62; refine (accums_Join.calls K p0 p1 p2 p3 a1 a2 a3 a4 q0 q1 q2 q3 0 _ HJn.out).mono ?_; rintro e w11 ⟨rfl, hb⟩; have n0_ := Aside0.mk (below_step (by repeat (first | exact HB4.out | apply below_drew | apply below_alloc | apply pw_below_drewN)) hb); have n1_ := mapIs_below HMv.out (below_step HB3.out n0_.out); obtain ⟨w12, hrun, hmp, hgr⟩ := n1_.update key104 Try.underlying102 HBig.out HOs.out (q0, q1, q2, q3); have hrun' : (Instr.mapUpdate 102 (.map (some bv)) (.agg #[.int .i64 k1, .int .i64 s]) (.agg #[.int .i64 q0, .int .i64 q1, .int .i64 q2, .int .i64 q3])).run Try.prog w11 = .ok () w12 := hrun; have HM5 := Aside0.mk hmp; have HG5 := Aside0.mk hgr; clear HB4 hrun hmp hgr n1_; have HB4 := n0_; clear hb n0_) | fail)
              -- END31
              go_wp2
              have hbw : Below w.heap.size w w11 := HB.out.trans ((below_step HB3.out HB4.out).mono HB.out.size)
              have hb11 : Below wr.heap.size wr w11 := below_step HB3.out HB4.out
              have hbvw : w.heap.size ≤ bv := HO.out.2.2
              have hne : ∀ (g : Nat) (cs : Array Value) (ty : TypeId), wr.heap[g]? = some (.cells cs ty (0, 0)) → w12.heap[g]? = some (.cells cs ty (0, 0)) := fun g cs ty h0 => by
                have h := blk_below h0 hb11
                exact (HG5.out.block g (blk_lt h) (fun e => by
                  injection e with e
                  rw [e] at h
                  obtain ⟨D, ⟨es, ck, h2, _⟩, _⟩ := mapIs_below HMv.out hb11
                  rw [h] at h2
                  cases h2)).trans h
              have m0_ : MapIs Try.prog 104 w12 bv (n' + 1) (winStep (winsF (wsOf sz ev) seen) k1 (a1, a2, a3, a4) ((wsOf sz ev k2).take (jj + 1))) := by rw [← HPut.out]; exact HM5.out
              have m1_ : Ranging Try.prog 104 w12 bm r1 l1.length PM (seen ++ [((k1, k2), (a1, a2, a3, a4))]) cnt' := (HRg.out.kept (grown_of_below hb11 none) (by simp) (by simp)).kept HG5.out (by have h1 := HO.out; simp; omega) (by have h1 := HR1v.out; simp; omega)
              have m2_ : Below w.heap.size w w12 := hbw.grown HG5.out hbw.size (fun q hq => by injection hq with hq; subst hq; exact hbvw)
              have m3_ : Kd.C k34 w12 (some ad) SL.length SL := C34_map (Kd.C_below HC.out hb11) (mapIs_below HMv.out hb11) HG5.out
              go_roundw
              case rel => exact ⟨jj + 1, n' + 1, rfl, by go_num, ⟨HLt.out⟩, ⟨by have := HN'.out; omega⟩, ⟨m0_⟩, ⟨m1_⟩, ⟨m2_⟩, ⟨hne _ _ _ BW.out⟩, ⟨hne _ _ _ B16.out⟩, ⟨hne _ _ _ B17.out⟩, ⟨m3_⟩⟩
              case measure => have := HLt.out; simp [intOf]; omega
            · obtain rfl : jj = SL.length := by have := HJ.out; omega
              have hcx : decide ((SL.length : Int) < (SL.length : Int)) = false := decide_eq_false (by omega)
              have m0_ : MapIs Try.prog 104 wr bv n' (winsF (wsOf sz ev) (seen ++ [((k1, k2), (a1, a2, a3, a4))])) := by
                have h := MV.out
                rw [HSl.out, List.take_length] at h
                rw [winsF_snoc]
                exact h
              have m1_ : n' ≤ 16 * (seen ++ [((k1, k2), (a1, a2, a3, a4))]).length := by
                have h1 := HN'.out
                have h2 := HSl.out
                have h3 := HWl.out
                simp only [List.length_append, List.length_singleton]
                omega
              clear hlt
              go_wp2
              go_roundw
              case rel => exact ⟨_, cnt', n', HRg, HCn, ⟨m1_⟩, ⟨m0_⟩, HB, BW⟩
              case measure => rw [HRg.out.left_eq]; have h1 := HMe.out; have h2 := HMe2.out; omega
end Go.Proofs.Ytepgpbbeeiebkaa.St
namespace Go.Proofs.Ytepgpbbeeiebkaa.St
open Go.RowKit Go.Proofs.YtepgpbbeeiebkaaFar Go.Proofs.YtepgpbbeeiebkaaW.PrintWords Go.Proofs.YtepgpbbeeiebkaaW.PrintLast Go.Proofs.YtepgpbbeeiebkaaW.PrintMore
set_option linter.unusedVariables false
set_option linter.unusedSimpArgs false

def panes_Values.f (kd sz ev : Int) (l : List S26) : Option (List S39 × Int) :=
  if slidE kd sz ev = 0 then (if l.length ≤ 240 then (if l.all (fun r => i64Ok r.f0) = true then (match valOut sz ev l with | some out => some (out, 0) | none => some ([], 16)) else none) else some ([], 4)) else some ([], slidE kd sz ev)

set_option maxHeartbeats 4000000 in
set_option maxRecDepth 100000 in
theorem values_err (kd sz ev er : Int) (hs : slidE kd sz ev = er) (hne : er ≠ 0) (A1 : Option Addr) (c1 n1 : Nat) (w : World) :
    Calls Try.prog 33 #[.agg #[.int .u8 kd, .int .i64 sz, .int .i64 ev], .slice A1 n1 c1] w fun e w' => e = .returned (.tuple #[.slice none 0 0, .int .i64 er]) ∧ Below w.heap.size w w' := by
  have hsl : panes_sliding.f 2 kd sz ev = some er := by rw [sliding_ok kd sz ev (by omega), hs]
  have HSL := Aside0.mk hsl
  have hu24 := Try.underlying24
  have he0 : (er == 0) = false := beq_eq_false_iff_ne.mpr hne
  have he1 : (er != 0) = true := bne_iff_ne.mpr hne
  have HB := Aside0.mk (Below.refl w.heap.size w)
  clear hs hne hsl
  go_enter Try.func33, Try.ntmps33
  go_wp2_with ((with_reducible refine gate_callee (f := 60) rfl ?_); refine goesL_ (some 27) rfl rfl Try.func60 (by kernel_rfl) rfl #[.agg #[.int .u8 kd, .int .i64 sz, .int .i64 ev]] rfl (by (try simp only [List.map_toArray, List.map_cons, List.map_nil]); first | done | rfl) ?_; (with_reducible refine (panes_sliding.calls 2 kd sz ev er _ HSL.out).mono ?_); rintro e w5 ⟨rfl, hb⟩; refine ⟨_, rfl, ?_⟩; have n1_ := Aside0.mk (below_step (below_alloc HB.out _) hb); clear HB hb; have HB := n1_; clear n1_)
  go_ret2
  exact ⟨rfl, HB.out⟩
set_option maxHeartbeats 4000000 in
set_option maxRecDepth 100000 in
theorem values_many (kd sz ev : Int) (hs : slidE kd sz ev = 0) (A1 : Option Addr) (c1 n1 : Nat) (hn : 240 < n1) (w : World) :
    Calls Try.prog 33 #[.agg #[.int .u8 kd, .int .i64 sz, .int .i64 ev], .slice A1 n1 c1] w fun e w' => e = .returned (.tuple #[.slice none 0 0, .int .i64 4]) ∧ Below w.heap.size w w' := by
  have hsl : panes_sliding.f 2 kd sz ev = some 0 := by rw [sliding_ok kd sz ev (by omega), hs]
  have HSL := Aside0.mk hsl
  have hu24 := Try.underlying24
  have he0 : decide (240 < (n1 : Int)) = true := decide_eq_true (by omega)
  have he1 : decide (240 < n1) = true := decide_eq_true hn
  have HB := Aside0.mk (Below.refl w.heap.size w)
  clear hs hsl hn
  go_enter Try.func33, Try.ntmps33
  go_wp2_with ((with_reducible refine gate_callee (f := 60) rfl ?_); refine goesL_ (some 27) rfl rfl Try.func60 (by kernel_rfl) rfl #[.agg #[.int .u8 kd, .int .i64 sz, .int .i64 ev]] rfl (by (try simp only [List.map_toArray, List.map_cons, List.map_nil]); first | done | rfl) ?_; (with_reducible refine (panes_sliding.calls 2 kd sz ev 0 _ HSL.out).mono ?_); rintro e w5 ⟨rfl, hb⟩; refine ⟨_, rfl, ?_⟩; have n1_ := Aside0.mk (below_step (below_alloc HB.out _) hb); clear HB hb; have HB := n1_; clear n1_)
  go_ret2
  exact ⟨rfl, HB.out⟩
theorem panes_Values.calls (kd sz ev : Int) (A1 : Option Addr) (c1 : Nat) (l1 : List S26) (r1 : List S39) (r2 : Int) (w : World) (hr1 : Kd.C k26 w A1 l1.length l1) (hc1 : l1.length ≤ c1) (h : panes_Values.f kd sz ev l1 = some (r1, r2)) :
    Calls Try.prog 33 #[.agg #[.int .u8 kd, .int .i64 sz, .int .i64 ev], .slice A1 l1.length c1] w fun e w' => ∃ v0_ : Value, e = .returned (.tuple #[v0_, .int .i64 r2]) ∧ Kd.R k39 39 w' w.heap.size (fun _ => True) v0_ r1 ∧ Below w.heap.size w w' := by
  unfold panes_Values.f at h
  split at h
  · rename_i hs
    split at h
    · rename_i hl
      split at h
      · rename_i hk
        have hw := values_walk kd sz ev _ hs rfl A1 c1 l1 w hr1 hc1 hl (List.all_eq_true.1 hk)
        cases hv : valOut sz ev l1 with
        | none =>
          rw [hv] at h hw
          simp only [Option.some.injEq, Prod.mk.injEq] at h
          obtain ⟨rfl, rfl⟩ := h
          refine hw.mono ?_
          rintro e w' ⟨rfl, hb⟩
          exact ⟨_, rfl, Kd.R_nil _ _ _ _ _, hb⟩
        | some out =>
          rw [hv] at h hw
          simp only [Option.some.injEq, Prod.mk.injEq] at h
          obtain ⟨rfl, rfl⟩ := h
          refine hw.mono ?_
          rintro e w' ⟨v, rfl, hR, hb⟩
          exact ⟨_, rfl, hR, hb⟩
      · cases h
    · rename_i hl
      simp only [Option.some.injEq, Prod.mk.injEq] at h
      obtain ⟨rfl, rfl⟩ := h
      refine (values_many kd sz ev hs A1 c1 l1.length (by omega) w).mono ?_
      rintro e w' ⟨rfl, hb⟩
      exact ⟨_, rfl, Kd.R_nil _ _ _ _ _, hb⟩
  · rename_i hs
    simp only [Option.some.injEq, Prod.mk.injEq] at h
    obtain ⟨rfl, rfl⟩ := h
    refine (values_err kd sz ev _ rfl hs A1 c1 l1.length w).mono ?_
    rintro e w' ⟨rfl, hb⟩
    exact ⟨_, rfl, Kd.R_nil _ _ _ _ _, hb⟩
end Go.Proofs.Ytepgpbbeeiebkaa.St
