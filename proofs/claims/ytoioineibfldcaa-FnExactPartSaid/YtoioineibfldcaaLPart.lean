/-
  The plain laws behind Part: l1Copy, l1Sub, both Parts, and the marks that markNodeS sets and heldNodeS looks for. Conditions: at most 2932031007402 nodes; the marks start at 1 and at most 1000000 nodes are marked.
-/
import Derived.Test.YtoioineibfldcaaLGood
import Derived.Test.YtoioineibfldcaaKx24
import Derived.Test.YtoioineibfldcaaKx25
import Derived.Test.YtoioineibfldcaaKx28
import Derived.Test.YtoioineibfldcaaKx30
set_option linter.unusedVariables false
namespace Go.Proofs.Ytoioineibfldcaa.K
open Go.RowKit Go.Proofs.YtoioineibfldcaaW.PrintWords Go.Proofs.YtoioineibfldcaaW.PrintLast Go.Proofs.YtoioineibfldcaaW.PrintMore

theorem run_bd : ∀ (ks : List Int) (st : List (Int × Int)) (i : Nat) (Y fin : List (Int × Int)), run st i ks = some (Y, fin) → (∀ e ∈ st, 0 ≤ e.2 ∧ e.2 < (i : Int)) → ∀ (j : Nat) (e : Int × Int), Y[j]? = some e → 0 ≤ e.2 ∧ e.2 ≤ (i : Int) + j := by
  intro ks
  induction ks with
  | nil => intro st i Y fin h _ j e he; simp [run] at h; obtain ⟨rfl, rfl⟩ := h; simp at he
  | cons k ks ih =>
    intro st i Y fin h hst j e he
    by_cases hb : k < 0 ∨ (st.length : Int) < k
    · rw [run_bad _ _ _ _ hb] at h; cases h
    · rw [run_ok _ _ _ _ hb] at h
      obtain ⟨⟨Y', fin'⟩, h1, h2⟩ := Option.map_eq_some_iff.1 h
      obtain ⟨h3, h4⟩ := Prod.mk.inj h2
      simp only at h3 h4
      subst h3 h4
      have hf := foldKids_snd (1, (i : Int)) i (st.drop (st.length - k.toNat)) (by simp) (fun e he => hst e (List.mem_of_mem_drop he))
      cases j with
      | zero => simp at he; subst he; omega
      | succ j =>
        simp at he
        rw [show ((i : Int) + 1) = ((i + 1 : Nat) : Int) by omega] at h1
        have := ih _ (i + 1) _ _ h1 (fun e he => by
          rcases List.mem_append.1 he with he | he
          · have := hst e (List.mem_of_mem_take he); omega
          · rw [List.mem_singleton.1 he]; omega) j e he
        omega

/-! ### l1Copy, l1Sub -/
theorem copy_loop (l : List S41) (hl : l.length ≤ 2932031007402) (d : Nat) : ∀ (i : Nat), i ≤ l.length → l.length - i = d → Ev (fun k => spec_l1Copy.l0 k l (l.take i) i) l := by
  induction d with
  | zero =>
    intro i hi hd
    refine Ev.step (f := fun _ => some l) (fun k => ?_) (Ev.now _)
    simp only [spec_l1Copy.l0]
    rw [if_neg (by omega), List.take_of_length_le (by omega)]
  | succ d ih =>
    intro i hi hd
    have hlt : i < l.length := by omega
    have hx : rd_T41 l (i : Int) = l[i] := by simp [rd_T41, List.getD_eq_getElem?_getD, hlt]
    refine Ev.step (fun k => ?_) (ih (i + 1) (by omega) (by omega))
    simp only [spec_l1Copy.l0]
    rw [if_pos (by omega), if_pos (by omega), if_pos (by rw [List.length_take]; omega), hx, wrap_succ hlt (by omega), List.take_succ_eq_append_getElem hlt]
theorem copy_ev (l : List S41) (hl : l.length ≤ 2932031007402) : Ev (fun k => spec_l1Copy.f k l) l := by
  have := copy_loop l hl _ 0 (Nat.zero_le _) rfl
  rw [List.take_zero] at this
  exact this
theorem sub_ev (l : List S41) (hl : l.length ≤ 2932031007402) (Y : List (Int × Int)) (i : Nat) (e : Int × Int) (hY : Y.length = l.length) (he : Y[i]? = some e) (h0 : 0 ≤ e.2) (h1 : e.2 ≤ i) :
    Ev (fun k => spec_l1Sub.f k l (szOf 0 Y) i) ((l.take (i + 1)).drop e.2.toNat) := by
  have hi : i < Y.length := (List.getElem?_eq_some_iff.1 he).1
  have hsz : rd (szOf 0 Y) (i : Int) = (i : Int) - e.2 + 1 := by
    rw [rd_nat, List.getD_eq_getElem?_getD, szOf_get Y 0 i e he, Option.getD_some]
    omega
  have hc := copy_ev ((l.take (i + 1)).drop e.2.toNat) (by rw [List.length_drop, List.length_take]; omega)
  refine Ev.congr (f := fun k => (spec_l1Copy.f k ((l.take (i + 1)).drop e.2.toNat)).bind fun t => some t) (fun k => ?_) (Ev.bind hc (Ev.now _))
  unfold spec_l1Sub.f
  rw [hsz, wrap_id (x := (i : Int) - ((i : Int) - e.2 + 1)) (by omega) (by omega), show (i : Int) - ((i : Int) - e.2 + 1) + 1 = e.2 by omega, wrap_id (x := e.2) (by omega) (by omega), wrap_succ (n := Y.length) hi (by omega)]
  rw [if_pos (by omega), if_pos (by rw [szOf_len]; omega), if_pos h0, if_pos (by omega), if_pos (by omega), Int.toNat_natCast]

theorem part_ev (l : List S41) (hl : l.length ≤ 2932031007402) (a : Int) : ∃ t, Ev (fun k => spec_Part.f k l a) t ∧ Ev (fun k => impl_Part.f k l a) t := by
  obtain ⟨b, hg1, hg2, hg3⟩ := good_cases l hl
  have out : ∀ (f : Nat → Option (List S41)), (∀ k, f k = spec_Part.j0 k l a true) → Ev f [] := fun f hf =>
    Ev.congr (f := fun k => spec_Part.j0 k l a true) hf (Ev.step (f := fun _ => some []) (fun k => by rw [spec_Part.j0, if_pos rfl]) (Ev.now _))
  have outi : ∀ (f : Nat → Option (List S41)), (∀ k, f k = impl_Part.j0 k l a true) → Ev f [] := fun f hf =>
    Ev.congr (f := fun k => impl_Part.j0 k l a true) hf (Ev.step (f := fun _ => some []) (fun k => by rw [impl_Part.j0, if_pos rfl]) (Ev.now _))
  cases b with
  | false =>
    refine ⟨[], Ev.bind hg1 (out _ (fun k => if_neg (by simp))), outi _ (fun k => ?_)⟩
    rw [impl_Part.f, hg2, Option.bind_some, if_neg (by simp)]
  | true =>
    obtain ⟨Y, x, o⟩ := hg3 rfl
    by_cases ha : a < 0
    · refine ⟨[], Ev.bind hg1 (out _ (fun k => ?_)), outi _ (fun k => ?_)⟩
      · rw [if_pos rfl, if_pos ha]
      · rw [impl_Part.f, hg2, Option.bind_some, if_pos rfl, if_pos ha]
    by_cases ha2 : a ≥ (l.length : Int)
    · refine ⟨[], Ev.bind hg1 (out _ (fun k => ?_)), outi _ (fun k => ?_)⟩
      · rw [if_pos rfl, if_neg ha, decide_eq_true ha2]
      · rw [impl_Part.f, hg2, Option.bind_some, if_pos rfl, if_neg ha, decide_eq_true ha2]
    obtain ⟨n, rfl⟩ : ∃ n : Nat, a = n := ⟨a.toNat, by omega⟩
    have hlen := o.len
    have hnY : n < Y.length := by omega
    have hy : Y[n]? = some Y[n] := List.getElem?_eq_getElem hnY
    have hbd := run_bd _ _ 0 _ _ o.run_ (by simp) n _ hy
    have hs := sub_ev l hl Y n _ hlen hy hbd.1 (by omega)
    refine ⟨_, Ev.bind hg1 (Ev.congr (f := fun k => spec_Part.j0 k l n false) (fun k => ?_) (Ev.step (fun k => ?_) (Ev.bind hs (Ev.now _)))), Ev.congr (f := fun k => impl_Part.j0 k l n false) (fun k => ?_) (Ev.step (f := fun k => some ((l.take (n + 1)).drop Y[n].2.toNat)) (fun k => ?_) (Ev.now _))⟩
    · rw [if_pos rfl, if_neg ha, decide_eq_false ha2]
    · rw [spec_Part.j0, if_neg (by simp), o.sizes, Option.bind_some]
    · rw [impl_Part.f, hg2, Option.bind_some, if_pos rfl, if_neg ha, decide_eq_false ha2]
    · have hrd : rd (Y.map (·.2)) (n : Int) = Y[n].2 := by rw [rd_nat, List.getD_eq_getElem?_getD, List.getElem?_map, hy]; rfl
      rw [impl_Part.j0, if_neg (by simp), o.meas, Option.bind_some]
      simp only [hrd]
      rw [wrap_succ (n := Y.length) hnY (by omega), if_pos (by omega), if_pos (by rw [List.length_map]; omega), if_pos hbd.1, if_pos (by omega), if_pos (by omega), Int.toNat_natCast]
      unfold impl_copied.f
      rw [if_pos (by rw [List.length_drop, List.length_take]; omega)]
      rfl

/-! ### the marks -/
theorem markText_loop : ∀ (d : Nat) (a : Int) (s : ByteArray), a.toNat ≤ d → a ≤ 1000000000 → s.size + d ≤ 9223372036854775800 → ∃ t, Ev (fun k => laws_markText.l0 k a s) t := by
  intro d
  induction d with
  | zero =>
    intro a s h1 _ h2
    refine ⟨(⟨#[109]⟩ : ByteArray) ++ s, Ev.step (f := fun _ => some ((⟨#[109]⟩ : ByteArray) ++ s)) (fun k => ?_) (Ev.now _)⟩
    rw [laws_markText.l0, if_neg (by omega), if_pos (by omega)]
  | succ d ih =>
    intro a s h1 h3 h2
    by_cases h : a > 0
    · have hd : Int.tdiv a 10 = a / 10 := Int.tdiv_eq_ediv_of_nonneg (by omega)
      have hw : wrap64 (Int.tdiv a 10) = a / 10 := by rw [hd]; exact wrap_id (by omega) (by omega)
      obtain ⟨t, ht⟩ := ih (a / 10) (strOfNums [(wrap64 (48 + (Int.tmod a 10))) % 256] ++ s) (by omega) (by omega) (by rw [ByteArray.size_append, strOfNums_size]; simp; omega)
      refine ⟨t, Ev.step (fun k => ?_) ht⟩
      rw [laws_markText.l0, if_pos h, Option.bind_some, if_pos (by rw [strOfNums_size]; simp; omega), hw]
    · refine ⟨(⟨#[109]⟩ : ByteArray) ++ s, Ev.step (f := fun _ => some ((⟨#[109]⟩ : ByteArray) ++ s)) (fun k => ?_) (Ev.now _)⟩
      rw [laws_markText.l0, if_neg h, if_pos (by omega)]
theorem markText_ex (a : Int) (ha : a ≤ 1000000000) : ∃ t, Ev (fun k => laws_markText.f k a) t := by
  by_cases h : a ≤ 0
  · exact ⟨_, Ev.congr (fun k => by rw [laws_markText.f, if_pos h]) (Ev.now _)⟩
  · obtain ⟨t, ht⟩ := markText_loop a.toNat a (⟨#[]⟩ : ByteArray) (Nat.le_refl _) ha (by have : (⟨#[]⟩ : ByteArray).size = 0 := rfl; omega)
    exact ⟨t, Ev.congr (fun k => by rw [laws_markText.f, if_neg h]) ht⟩
open Classical in
noncomputable def mt (a : Int) : ByteArray := if h : ∃ t, Ev (fun k => laws_markText.f k a) t then h.choose else ⟨#[]⟩
theorem mt_ev (a : Int) (ha : a ≤ 1000000000) : Ev (fun k => laws_markText.f k a) (mt a) := by
  have h := markText_ex a ha
  unfold mt
  rw [dif_pos h]
  exact h.choose_spec
/-- The node that the marks from a on make. -/
noncomputable def mk (a : Int) : S41 := ⟨a, a + 1, mt (a + 2), a + 3, a + 4⟩
noncomputable def mks (a : Int) (n : Nat) : List S41 := (List.range n).map (fun j : Nat => mk (a + 5 * (j : Int)))
theorem mks_len (a : Int) (n : Nat) : (mks a n).length = n := by simp [mks]
theorem mks_get (a : Int) (n i : Nat) (h : i < n) : (mks a n)[i]'(by rw [mks_len]; exact h) = mk (a + 5 * i) := by simp [mks]
theorem mks_rd (a : Int) (n i : Nat) (h : i < n) : rd_T41 (mks a n) (i : Int) = mk (a + 5 * i) := by
  rw [rd_T41, Int.toNat_natCast, List.getD_eq_getElem?_getD, List.getElem?_eq_getElem (by rw [mks_len]; exact h), Option.getD_some, mks_get _ _ _ h]
theorem rd_set (l : List S41) (i : Nat) (x : S41) (h : i < l.length) : rd_T41 (l.set i x) (i : Int) = x := by
  rw [rd_T41, Int.toNat_natCast, List.getD_eq_getElem?_getD, List.getElem?_set_self h]
  rfl
theorem mark_step (l : List S41) (b : Int) (i k : Nat) (hb0 : 0 ≤ b) (hb : b ≤ 900000000) (hlt : i < l.length) (hl : l.length ≤ 900000000) :
    laws_markNodeS.l0 (k + 1) l b i = (laws_markText.f k (b + 2)).bind fun t => laws_markNodeS.l0 k (l.set i ⟨b, b + 1, t, b + 3, b + 4⟩) (b + 5) ((i + 1 : Nat) : Int) := by
  have w1 : wrap64 (b + 1) = b + 1 := wrap_id (by omega) (by omega)
  have w2 : wrap64 (b + 1 + 1) = b + 2 := by rw [wrap_id (by omega) (by omega)]; omega
  have w3 : wrap64 (b + 2 + 1) = b + 3 := by rw [wrap_id (by omega) (by omega)]; omega
  have w4 : wrap64 (b + 3 + 1) = b + 4 := by rw [wrap_id (by omega) (by omega)]; omega
  have w5 : wrap64 (b + 4 + 1) = b + 5 := by rw [wrap_id (by omega) (by omega)]; omega
  have w6 : wrap64 ((i : Int) + 1) = ((i + 1 : Nat) : Int) := wrap_succ hlt (by omega)
  have hi : (i : Int) < (l.length : Int) := by omega
  have hi0 : (0 : Int) ≤ (i : Int) := by omega
  rw [laws_markNodeS.l0, if_pos hi, if_pos hi0]
  simp only [Option.bind_some, w1, w2, w3, w4, w5, w6, Int.toNat_natCast]
  congr 1
  funext t
  rw [rd_set l i _ hlt]
  simp only [List.set_set]
  rw [rd_set l i _ hlt]
  simp only []
  rw [rd_set l i _ hlt]
  simp only []
  rw [rd_set l i _ hlt]
theorem mark_loop (a : Int) (n : Nat) (ha : 0 ≤ a) (hn : a + 5 * n ≤ 900000000) (d : Nat) : ∀ (i : Nat) (l : List S41) (b : Int), b = a + 5 * i → l.length = n → i ≤ n → n - i = d → l.take i = (mks a n).take i →
    Ev (fun k => laws_markNodeS.l0 k l b i) (a + 5 * n, mks a n) := by
  induction d with
  | zero =>
    intro i l b hb hl hi hd ht
    obtain rfl : i = n := by omega
    rw [List.take_of_length_le (by omega), List.take_of_length_le (by rw [mks_len]; omega)] at ht
    subst hb
    have hi : ¬ ((i : Int) < (l.length : Int)) := by omega
    refine Ev.step (f := fun _ => some (a + 5 * (i : Int), mks a i)) (fun k => ?_) (Ev.now _)
    rw [laws_markNodeS.l0, if_neg hi, ht]
  | succ d ih =>
    intro i l b hb hl hi hd ht
    have hlt : i < l.length := by omega
    have hm := mt_ev (b + 2) (by omega)
    have hnext := ih (i + 1) (l.set i ⟨b, b + 1, mt (b + 2), b + 3, b + 4⟩) (b + 5) (by omega) (by rw [List.length_set]; exact hl) (by omega) (by omega) (by
      rw [List.take_succ_eq_append_getElem (by rw [List.length_set]; omega), List.take_succ_eq_append_getElem (by rw [mks_len]; omega), List.take_set_of_le (Nat.le_refl _), ht, mks_get _ _ _ (by omega)]
      rw [List.getElem_set_self, hb]
      rfl)
    obtain ⟨K1, h1⟩ := hm
    obtain ⟨K2, h2⟩ := hnext
    refine ⟨K1 + K2 + 1, fun k hk => ?_⟩
    obtain ⟨k, rfl⟩ : ∃ k', k = k' + 1 := ⟨k - 1, by omega⟩
    have h3 := h1 k (by omega)
    simp only at h3
    show laws_markNodeS.l0 (k + 1) l b i = _
    rw [mark_step l b i k (by omega) (by omega) hlt (by omega), h3, Option.bind_some]
    exact h2 k (by omega)
theorem mark_ev (l : List S41) (a : Int) (ha : 0 ≤ a) (hl : a + 5 * l.length ≤ 900000000) : Ev (fun k => laws_markNodeS.f k l a) (a + 5 * l.length, mks a l.length) :=
  mark_loop a l.length ha hl _ 0 l a (by omega) rfl (Nat.zero_le _) rfl (by simp)
theorem held_step (a : Int) (n i k : Nat) (b : Int) (hb : b = a + 5 * i) (hb0 : 0 ≤ b) (hb1 : b ≤ 900000000) (hlt : i < n) (hn : n ≤ 900000000) :
    laws_heldNodeS.l0 (k + 1) (mks a n) b i = (laws_markText.f k (b + 2)).bind fun t => if (mt (b + 2)).toList = t.toList then laws_heldNodeS.l0 k (mks a n) (b + 5) ((i + 1 : Nat) : Int) else some (-1) := by
  have w1 : wrap64 (b + 1) = b + 1 := wrap_id (by omega) (by omega)
  have w2 : wrap64 (b + 1 + 1) = b + 2 := by rw [wrap_id (by omega) (by omega)]; omega
  have w3 : wrap64 (b + 2 + 1) = b + 3 := by rw [wrap_id (by omega) (by omega)]; omega
  have w4 : wrap64 (b + 3 + 1) = b + 4 := by rw [wrap_id (by omega) (by omega)]; omega
  have w5 : wrap64 (b + 4 + 1) = b + 5 := by rw [wrap_id (by omega) (by omega)]; omega
  have w6 : wrap64 ((i : Int) + 1) = ((i + 1 : Nat) : Int) := wrap_succ hlt (by omega)
  have hi : (i : Int) < ((mks a n).length : Int) := by rw [mks_len]; omega
  have hi0 : (0 : Int) ≤ (i : Int) := by omega
  rw [laws_heldNodeS.l0, if_pos hi, if_pos hi0, mks_rd _ _ _ hlt, ← hb]
  simp only [mk, w1, w2, w3, w4, w5, w6, if_true]
theorem held_loop (a : Int) (n : Nat) (ha : 0 ≤ a) (hn : a + 5 * n ≤ 900000000) (d : Nat) : ∀ (i : Nat) (b : Int), b = a + 5 * i → i ≤ n → n - i = d →
    Ev (fun k => laws_heldNodeS.l0 k (mks a n) b i) (a + 5 * n) := by
  induction d with
  | zero =>
    intro i b hb hi hd
    obtain rfl : i = n := by omega
    subst hb
    have hi : ¬ ((i : Int) < ((mks a i).length : Int)) := by rw [mks_len]; omega
    refine Ev.step (f := fun _ => some (a + 5 * (i : Int))) (fun k => ?_) (Ev.now _)
    rw [laws_heldNodeS.l0, if_neg hi]
  | succ d ih =>
    intro i b hb hi hd
    obtain ⟨K1, h1⟩ := mt_ev (b + 2) (by omega)
    obtain ⟨K2, h2⟩ := ih (i + 1) (b + 5) (by omega) (by omega) (by omega)
    refine ⟨K1 + K2 + 1, fun k hk => ?_⟩
    obtain ⟨k, rfl⟩ : ∃ k', k = k' + 1 := ⟨k - 1, by omega⟩
    have h3 := h1 k (by omega)
    simp only at h3
    show laws_heldNodeS.l0 (k + 1) (mks a n) b i = _
    rw [held_step a n i k b hb (by omega) (by omega) (by omega) (by omega), h3, Option.bind_some, if_pos rfl]
    exact h2 k (by omega)
theorem held_ev (a : Int) (n : Nat) (ha : 0 ≤ a) (hn : a + 5 * n ≤ 900000000) : Ev (fun k => laws_heldNodeS.f k (mks a n) a) (a + 5 * n) :=
  held_loop a n ha hn _ 0 a (by omega) (Nat.zero_le _) rfl
end Go.Proofs.Ytoioineibfldcaa.K
