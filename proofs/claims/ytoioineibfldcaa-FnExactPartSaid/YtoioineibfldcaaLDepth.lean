/-
  The plain laws of spec.l1Roots and spec.l1Depths over the sizes that the run of the stack gives. Condition: at most 2932031007402 nodes.
-/
import Derived.Test.YtoioineibfldcaaLTree
import Derived.Test.YtoioineibfldcaaLBase
import Derived.Test.YtoioineibfldcaaKx13
import Derived.Test.YtoioineibfldcaaKx14
set_option linter.unusedVariables false
namespace Go.Proofs.Ytoioineibfldcaa.K
open Go.RowKit Go.Proofs.YtoioineibfldcaaW.PrintWords Go.Proofs.YtoioineibfldcaaW.PrintLast Go.Proofs.YtoioineibfldcaaW.PrintMore

theorem rd_nat (l : List Int) (i : Nat) : rd l (i : Int) = l.getD i 0 := by simp [rd]
theorem roots_loop (Y : List (Int × Int)) (hY : Y.length ≤ 2932031007402) : ∀ (rs : List (Int × Int)) (e : Int) (suf : List Int), PCh Y rs e → (∀ x ∈ rs, 0 ≤ x.2 ∧ x.2 ≤ 2932031007402) → rs.length ≤ 2932031007402 →
    Ev (fun k => spec_l1Roots.l0 k (szOf 0 Y) (List.replicate rs.length 0 ++ suf) e ((rs.length : Int) - 1)) ((rts rs e).reverse ++ suf) := by
  intro rs
  induction rs with
  | nil =>
    intro e suf h hb hlen
    refine Ev.step (f := fun _ => some suf) (fun k => ?_) (Ev.now _)
    simp only [spec_l1Roots.l0]
    rw [if_neg (by simp)]
    rfl
  | cons x s ih =>
    intro e suf h hb hlen
    rw [List.length_cons] at hlen
    obtain ⟨h0, h1, h2⟩ := h
    obtain ⟨n, rfl⟩ : ∃ n : Nat, e = n := ⟨e.toNat, by omega⟩
    rw [Int.toNat_natCast] at h1
    have hn : n < Y.length := (List.getElem?_eq_some_iff.1 h1).1
    have hx := hb x (by simp)
    have hsz : rd (szOf 0 Y) (n : Int) = 0 + n - x.2 + 1 := by
      rw [rd_nat, List.getD_eq_getElem?_getD, szOf_get Y 0 n x h1]
      rfl
    have hset : (List.replicate (x :: s).length (0 : Int) ++ suf).set s.length n = List.replicate s.length 0 ++ ((n : Int) :: suf) := by
      rw [List.length_cons, List.replicate_succ', List.append_assoc, List.set_append_right _ _ (by simp)]
      simp
    refine Ev.step (fun k => ?_) (show Ev (fun k => spec_l1Roots.l0 k (szOf 0 Y) (List.replicate s.length 0 ++ ((n : Int) :: suf)) (x.2 - 1) ((s.length : Int) - 1)) ((rts (x :: s) n).reverse ++ suf) from ?_)
    · simp only [spec_l1Roots.l0]
      have e1 : (((x :: s).length : Int) - 1) = (s.length : Int) := by simp
      rw [e1, if_pos (by omega), if_pos (by omega), if_pos (by simp; omega), if_pos (by omega), if_pos (by rw [szOf_len]; omega), Int.toNat_natCast, hset, hsz,
        wrap_id (x := (n : Int) - (0 + n - x.2 + 1)) (by omega) (by omega), show (n : Int) - (0 + n - x.2 + 1) = x.2 - 1 by omega, wrap_id (x := (s.length : Int) - 1) (by omega) (by omega)]
    · have := ih (x.2 - 1) ((n : Int) :: suf) h2 (fun y hy => hb y (List.mem_cons_of_mem _ hy)) (by omega)
      simpa [rts] using this
theorem roots_ev (l : List S41) (Y st : List (Int × Int)) (i kn : Nat) (hl : l.length ≤ 2932031007402) (hY : Y.length = l.length) (hA : At Y st i) (hi : i < l.length) (hk : (rd_T41 l (i : Int)).f3 = kn) (hkn : kn ≤ st.length) (hst : st.length ≤ i) :
    Ev (fun k => spec_l1Roots.f k l (szOf 0 Y) i) ((rts (st.reverse.take kn) ((i : Int) - 1)).reverse) := by
  have h := roots_loop Y (by omega) (st.reverse.take kn) ((i : Int) - 1) [] (hA.ch.take kn) (fun x hx => by
    have := hA.bd x (List.mem_reverse.1 (List.mem_of_mem_take hx)); omega) (by rw [List.length_take, List.length_reverse]; omega)
  have hlen : (st.reverse.take kn).length = kn := by rw [List.length_take, List.length_reverse]; omega
  rw [hlen, List.append_nil, List.append_nil] at h
  refine Ev.congr (fun k => ?_) h
  unfold spec_l1Roots.f
  rw [hk, if_pos (by omega), if_pos (by omega), if_pos (by omega), if_pos (by omega), Int.toNat_natCast, wrap_id (x := (i : Int) - 1) (by omega) (by omega), wrap_id (x := (kn : Int) - 1) (by omega) (by omega)]

theorem rts_depth (Y : List (Int × Int)) (i : Nat) : ∀ (rs : List (Int × Int)) (e : Int), PCh Y rs e → e < i → (∀ x ∈ rs, x.2 - 1 < i) →
    (∀ r ∈ rts rs e, 0 ≤ r ∧ r < i ∧ r < Y.length) ∧ (rts rs e).map (fun r => rd ((Y.take i).map (·.1)) r) = rs.map (·.1) := by
  intro rs
  induction rs with
  | nil => intro e h he hx; exact ⟨by simp [rts], rfl⟩
  | cons x s ih =>
    intro e h he hx
    obtain ⟨h0, h1, h2⟩ := h
    obtain ⟨n, rfl⟩ : ∃ n : Nat, e = n := ⟨e.toNat, by omega⟩
    rw [Int.toNat_natCast] at h1
    have hn : n < Y.length := (List.getElem?_eq_some_iff.1 h1).1
    obtain ⟨g1, g2⟩ := ih (x.2 - 1) h2 (hx x (by simp)) (fun y hy => hx y (List.mem_cons_of_mem _ hy))
    refine ⟨?_, ?_⟩
    · intro r hr
      rw [rts] at hr
      rcases List.mem_cons.1 hr with rfl | hr
      · omega
      · exact g1 r hr
    · rw [rts, List.map_cons, List.map_cons, g2]
      congr 1
      rw [rd_nat, List.getD_eq_getElem?_getD, List.getElem?_map, List.getElem?_take, if_pos (by omega), h1]
      rfl

theorem depths_in (x0 : List S41) (x1 x5 t : List Int) (x6 : Int) (R : List Int) (ht : t.length ≤ 9223372036854775807) (hr : ∀ r ∈ t, 0 ≤ r ∧ r < x5.length) (h5 : x5.length < 17592186044416) (d : Nat) : ∀ (j : Nat) (x7 : Int), j ≤ t.length → t.length - j = d →
    Ev (fun k => spec_l1Depths.l0 k x0 x1 (x5 ++ [wrap64 ((((t.drop j).map (fun r => rd x5 r)).foldl (fun d r => if d < r then r else d) x7) + 1)]) (wrap64 (x6 + 1))) R →
    Ev (fun k => spec_l1Depths.l1 k x0 x1 x5 x6 x7 t j) R := by
  induction d with
  | zero =>
    intro j x7 hj hd h
    obtain rfl : j = t.length := by omega
    rw [List.drop_length] at h
    refine Ev.step (fun k => ?_) h
    simp only [spec_l1Depths.l1]
    rw [if_neg (by omega), if_pos h5]
    rfl
  | succ d ih =>
    intro j x7 hj hd h
    have hlt : j < t.length := by omega
    rw [List.drop_eq_getElem_cons hlt, List.map_cons, List.foldl_cons] at h
    have hx : rd t (j : Int) = t[j] := by rw [rd_nat]; simp [List.getD_eq_getElem?_getD, hlt]
    have hb := hr t[j] (List.getElem_mem _)
    refine Ev.step (fun k => ?_) (ih (j + 1) (if x7 < rd x5 t[j] then rd x5 t[j] else x7) (by omega) (by omega) h)
    simp only [spec_l1Depths.l1]
    rw [if_pos (by omega), if_pos (by omega), hx, if_pos hb.1, if_pos hb.2, wrap_succ hlt ht]
    by_cases hc : x7 < rd x5 t[j]
    · rw [if_pos hc, if_pos hc]
    · rw [if_neg hc, if_neg hc]

theorem depths_loop (l : List S41) (hl : l.length ≤ 2932031007402) (Y fin : List (Int × Int)) (hY : Y.length = l.length) (d : Nat) : ∀ (i : Nat) (st : List (Int × Int)), i ≤ l.length → l.length - i = d →
    run st i ((l.map (·.f3)).drop i) = some (Y.drop i, fin) → At Y st i → st.length ≤ i →
    Ev (fun k => spec_l1Depths.l0 k l (szOf 0 Y) ((Y.take i).map (·.1)) i) (Y.map (·.1)) ∧ At Y fin l.length := by
  induction d with
  | zero =>
    intro i st hi hd hr hA hst
    obtain rfl : i = l.length := by omega
    rw [List.drop_of_length_le (by simp), run] at hr
    simp only [Option.some.injEq, Prod.mk.injEq] at hr
    obtain ⟨_, rfl⟩ := hr
    refine ⟨Ev.step (f := fun _ => some (Y.map (·.1))) (fun k => ?_) (Ev.now _), hA⟩
    simp only [spec_l1Depths.l0]
    rw [if_neg (by omega), List.take_of_length_le (by omega)]
  | succ d ih =>
    intro i st hi hd hr hA hst
    have hlt : i < l.length := by omega
    rw [drop_f3 l i hlt] at hr
    by_cases hb : (rd_T41 l (i : Int)).f3 < 0 ∨ (st.length : Int) < (rd_T41 l (i : Int)).f3
    · rw [run_bad _ _ _ _ hb] at hr; cases hr
    · obtain ⟨kn, hkn⟩ : ∃ kn : Nat, (rd_T41 l (i : Int)).f3 = kn := ⟨(rd_T41 l (i : Int)).f3.toNat, by omega⟩
      rw [run_ok _ _ _ _ hb] at hr
      obtain ⟨⟨Y', fin'⟩, h1, h2⟩ := Option.map_eq_some_iff.1 hr
      rw [hkn, Int.toNat_natCast] at h1 h2
      have hk : kn ≤ st.length := by omega
      obtain ⟨h3, h6⟩ := Prod.mk.inj h2
      simp only at h3 h6
      subst h6
      have hlY : i < Y.length := by omega
      rw [List.drop_eq_getElem_cons hlY] at h3
      obtain ⟨h4, h5⟩ := List.cons.inj h3
      have hy : Y[i]? = some (foldKids (1, (i : Int)) (st.drop (st.length - kn))) := by rw [List.getElem?_eq_getElem hlY, h4]
      have hA' := hA.next hk hy
      rw [h5, show ((i : Int) + 1) = ((i + 1 : Nat) : Int) by omega] at h1
      obtain ⟨g1, g2⟩ := ih (i + 1) _ (by omega) (by omega) h1 hA' (by rw [List.length_append, List.length_take, List.length_singleton]; omega)
      refine ⟨?_, g2⟩
      have hroots := roots_ev l Y st i kn hl hY hA hlt hkn hk hst
      obtain ⟨r1, r2⟩ := rts_depth Y i (st.reverse.take kn) ((i : Int) - 1) (hA.ch.take kn) (by omega) (fun x hx => by
        have := hA.bd x (List.mem_reverse.1 (List.mem_of_mem_take hx)); omega)
      have hlen5 : ((Y.take i).map (·.1)).length = i := by rw [List.length_map, List.length_take]; omega
      have hmax : (((rts (st.reverse.take kn) ((i : Int) - 1)).reverse.map (fun r => rd ((Y.take i).map (·.1)) r)).foldl (fun d r => if d < r then r else d) 0) + 1 = (foldKids (1, (i : Int)) (st.drop (st.length - kn))).1 := by
        rw [List.map_reverse, r2, List.take_reverse, List.map_reverse, List.reverse_reverse]
        have := foldKids_fst (st.drop (st.length - kn)) 0 (i : Int)
        rw [Int.zero_add] at this
        exact this.symm
      have hbd := (hA'.bd (foldKids (1, (i : Int)) (st.drop (st.length - kn))) (by simp)).2.1
      have hbd1 := (hA'.bd (foldKids (1, (i : Int)) (st.drop (st.length - kn))) (by simp)).1
      refine Ev.step (f := fun k => (spec_l1Roots.f k l (szOf 0 Y) i).bind fun t => spec_l1Depths.l1 k l (szOf 0 Y) ((Y.take i).map (·.1)) i 0 t 0) (fun k => ?_) (Ev.bind hroots ?_)
      · simp only [spec_l1Depths.l0]
        rw [if_pos (by omega)]
      · refine depths_in l (szOf 0 Y) ((Y.take i).map (·.1)) _ (i : Int) _ ?_ ?_ (by omega) _ 0 0 (Nat.zero_le _) rfl ?_
        · rw [List.length_reverse, rts_len, List.length_take, List.length_reverse]; omega
        · intro r hr'
          have := r1 r (List.mem_reverse.1 hr')
          rw [hlen5]
          omega
        · rw [List.drop_zero, hmax, wrap_id (by omega) (by omega), wrap_succ hlt (by omega)]
          have : ((Y.take (i + 1)).map (·.1)) = (Y.take i).map (·.1) ++ [(foldKids (1, (i : Int)) (st.drop (st.length - kn))).1] := by
            rw [List.take_succ_eq_append_getElem hlY, ← h4, List.map_append]
            rfl
          rw [← this]
          exact g1
theorem depths_ev (l : List S41) (hl : l.length ≤ 2932031007402) (Y fin : List (Int × Int)) (h : run [] 0 (l.map (·.f3)) = some (Y, fin)) :
    Ev (fun k => spec_l1Depths.f k l (szOf 0 Y)) (Y.map (·.1)) ∧ At Y fin l.length := by
  have hY : Y.length = l.length := by rw [run_len _ _ _ _ _ h, List.length_map]
  have := depths_loop l hl Y fin hY _ 0 [] (Nat.zero_le _) rfl (by simpa using h) ⟨by simp [PCh], by simp [ends], by simp⟩ (Nat.zero_le _)
  exact this
end Go.Proofs.Ytoioineibfldcaa.K
