/-
  spec.l1Sizes (function 41) hands back, in new memory, the sizes of the terms that end at each node ('sizesP' of the kid counts). Condition: at most 2932031007402 nodes.
-/
import Derived.Test.YtoioineibfldcaaHBase
set_option linter.unusedVariables false
namespace Go.Proofs.Ytoioineibfldcaa.K
open Go.RowKit Go.Proofs.YtoioineibfldcaaW.PrintWords Go.Proofs.YtoioineibfldcaaW.PrintLast Go.Proofs.YtoioineibfldcaaW.PrintMore
set_option maxRecDepth 100000
set_option maxHeartbeats 4000000

/-- The sizes of the terms that end at each node, from the open terms' beginnings and the index on. -/
def szs : List Int → Int → List Int → Option (List Int)
  | _, _, [] => some []
  | op, i, k :: ks => if k < 0 ∨ (op.length : Int) < k then none else
      let b := if 0 < k then op.getD (op.length - k.toNat) 0 else i
      (szs (op.take (op.length - k.toNat) ++ [b]) (i + 1) ks).map (fun r => (i - b + 1) :: r)
def sizesP (ks : List Int) : List Int := (szs [] 0 ks).getD []
def spec_l1Sizes.f (l0 : List S41) : Option (List Int) := if l0.length ≤ 2932031007402 then some (sizesP (l0.map (·.f3))) else none

theorem szs_bad (op : List Int) (i k : Int) (ks : List Int) (h : k < 0 ∨ (op.length : Int) < k) : szs op i (k :: ks) = none := by rw [szs, if_pos h]
theorem szs_ok (op : List Int) (i k : Int) (ks : List Int) (h : ¬ (k < 0 ∨ (op.length : Int) < k)) (b : Int) (hb : (if 0 < k then op.getD (op.length - k.toNat) 0 else i) = b) :
    szs op i (k :: ks) = (szs (op.take (op.length - k.toNat) ++ [b]) (i + 1) ks).map (fun r => (i - b + 1) :: r) := by
  rw [szs, if_neg h, hb]

theorem spec_l1Sizes.calls (A0 : Option Addr) (c0 : Nat) (l0 : List S41) (r : List Int) (w : World) (hr0 : Kd.C k41 w A0 l0.length l0) (hc0 : l0.length ≤ c0) (h : spec_l1Sizes.f l0 = some r) :
    Calls Try.prog 41 #[.slice A0 l0.length c0] w fun e w' => ∃ v0_ : Value, e = .returned v0_ ∧ Kd.R (Kd.int .i64) 3 w' w.heap.size (fun _ => True) v0_ r ∧ Below w.heap.size w w' := by
  unfold spec_l1Sizes.f at h
  by_cases hbig : l0.length ≤ 2932031007402
  · rw [if_pos hbig] at h
    have hres := Option.some.inj h
    clear h
    have HRES := Aside0.mk hres
    have HR0 := Aside0.mk hr0
    clear hres hr0
    go_enter Try.func41, Try.ntmps41
    go_wp2
    go_loopw [3, 4, 5] (fun v3 v4 v5 wr => ∃ (don op : List Int) (i : Nat), v5 = .int .i64 i ∧ i ≤ l0.length ∧ Aside0 (szs [] 0 (l0.map (·.f3)) = (szs op i ((l0.map (·.f3)).drop i)).map (don ++ ·)) ∧ don.length = i ∧ op.length ≤ i ∧ Aside0 (∀ e ∈ op, 0 ≤ e ∧ e < i) ∧
      Aside0 (Kd.R (Kd.int .i64) 3 wr w.heap.size (fun _ => True) v4 op) ∧ Aside0 (Kd.R (Kd.int .i64) 3 wr w.heap.size (fun k => True ∧ some k ≠ v4.ownBlock) v3 don) ∧ Aside0 (Below w.heap.size w wr))
      (fun _ _ i _ => l0.length - (intOf i).toNat)
    case atStart =>
      have o1 : ((w.alloc (Obj.cells #[] 3)).alloc (Obj.cells #[] 3)).ownsRow w.heap.size 3 1 (.slice (some ⟨w.heap.size, 0, none⟩) 0 0) 0 [] := (World.ownsRow_made w #[] 0 (Nat.le_refl _) (by simp [maxLen]) rfl).alloc _
      have o2 := World.ownsRow_made (e := 3) (size := 1) (base := w.heap.size) (w.alloc (Obj.cells #[] 3)) #[] 0 (by simp) (by simp [maxLen]) rfl
      rw [World.size_alloc] at o2
      refine ⟨[], [], 0, rfl, Nat.zero_le _, ⟨by simp⟩, rfl, Nat.zero_le _, ⟨by simp⟩, ⟨?_⟩, ⟨?_⟩, ⟨((Below.refl _ _).alloc (Nat.le_refl _) _).alloc (by simp) _⟩⟩
      · exact Kd.R_of_own (xs := []) o2 (fun _ _ => trivial)
      · exact Kd.R_of_own (xs := []) o1 (fun k hk => ⟨trivial, by simp [Value.ownBlock] at hk ⊢; omega⟩)
    case round =>
      obtain ⟨don, op, i, rfl, hi, HEQ, hdl, hol, HBD, HOP, HDO, HB⟩ := hrel
      by_cases hlt : i < l0.length
      · obtain ⟨ad, hA, hx0, hx1, hx2, hx3, hx4⟩ := at_T41 HR0.out (i : Int) (by omega) (by omega)
        subst hA
        replace hx3 := (HB.out.cell (World.block_lt_of_cell? w _ hx3)).trans hx3
        clear hx0 hx1 hx2 hx4
        rw [Int.toNat_natCast] at hx3
        have hdrop := drop_f3 l0 i hlt
        obtain ⟨kq, hkq⟩ : ∃ kq, (rd_T41 l0 (i : Int)).f3 = kq := ⟨_, rfl⟩
        rw [hkq] at hx3 hdrop
        clear hkq
        have HDR := Aside0.mk hdrop
        clear hdrop
        obtain ⟨A4, c4, e4, h4⟩ : ∃ A4 c4, u4 = .slice A4 op.length c4 ∧ op.length ≤ c4 := by
          obtain ⟨A4, c4, e4, h4, _⟩ := Kd.R_reads HOP.out
          exact ⟨A4, c4, e4, h4⟩
        subst e4
        by_cases hn0 : kq < 0 ∨ (op.length : Int) < kq
        · have hY0 : r = [] := by rw [← HRES.out, sizesP, HEQ.out, HDR.out, szs_bad _ _ _ _ hn0]; rfl
          subst hY0
          by_cases hn1 : kq < 0
          all_goals
            first | (have hn2 : (op.length : Int) < kq := by rcases hn0 with h | h; exact absurd h hn1; exact h) | skip
            clear hn0
            go_wp2
            go_ret
            refine ⟨_, rfl, Kd.R_of_own (xs := []) (World.ownsRow_made wr #[] 0 HB.out.size (by simp [maxLen]) rfl) (fun _ _ => trivial), HB.out.alloc HB.out.size _⟩
        · obtain ⟨kn, rfl⟩ : ∃ kn : Nat, kq = kn := ⟨kq.toNat, by omega⟩
          have hk0 : ¬ ((kn : Int) < 0) := by omega
          have hk1 : kn ≤ op.length := by omega
          have hk2 : ¬ (op.length < kn) := by omega
          clear hn0
          obtain ⟨m, hm⟩ : ∃ m, m = op.length - kn := ⟨_, rfl⟩
          obtain ⟨i0, hi0, hz0, hz1, hz2⟩ := info_parts info3
          have hcut := cut_to (P := Try.prog) 56 3 .i64 Try.underlying56 hi0 A4 op.length c4 ((op.length : Int) - (kn : Int)) (by omega) (by omega) h4
          rw [show ((op.length : Int) - (kn : Int)).toNat = m by omega] at hcut
          have HM := Aside0.mk hm
          have hml : m ≤ op.length := by omega
          clear hm
          obtain ⟨b, hb⟩ : ∃ b, (if 0 < kn then op.getD m 0 else (i : Int)) = b := ⟨_, rfl⟩
          have hb0 : 0 ≤ b ∧ b ≤ i := by
            rw [← hb]
            split
            · have := HBD.out (op.getD m 0) (by rw [List.getD_eq_getElem?_getD, List.getElem?_eq_getElem (by have := HM.out; omega)]; exact List.getElem_mem _)
              omega
            · omega
          obtain ⟨hb1, hb2⟩ := hb0
          have hY0 : szs [] 0 (l0.map (·.f3)) = (szs (op.take m ++ [b]) ((i : Int) + 1) ((l0.map (·.f3)).drop (i + 1))).map ((don ++ [(i : Int) - b + 1]) ++ ·) := by
            rw [HEQ.out, HDR.out, szs_ok _ _ _ _ (by omega) b (by rw [← hb, Int.toNat_natCast, ← HM.out]; simp), Int.toNat_natCast, ← HM.out, Option.map_map]
            congr 1
            funext r
            simp
          have HY0 := Aside0.mk hY0
          have HO := Aside0.mk (Kd.R_take (m := m) HOP.out hml)
          have hwr : ((i : Int) - b) + 1 ≤ 9223372036854775807 := by omega
          clear hY0
          by_cases hkp : 0 < kn
          · obtain ⟨adx, hax, hcx⟩ := Kd.at_int (Kd.R_reads' HOP.out).2.2 (m : Int) (by omega) (by have := HM.out; omega)
            subst hax
            rw [Int.toNat_natCast, rd, Int.toNat_natCast] at hcx
            rw [if_pos hkp] at hb
            rw [hb] at hcx
            have hmm : ((op.length : Int) - (kn : Int)) = (m : Int) := by have := HM.out; omega
            have HB' := Aside0.mk hb
            clear hb
            go_wp2_with (first | (at_builtin; refine Kd.R_append (Kd.int .i64) (w0 := w) w.heap.size rfl (.tmp 45) (.tmp 47) 56 3 (.int .i64 0) 8 rfl Try.underlying56 info3 rfl (by decide) (by omega) (.slice (some adx) m c4) (op.take m) b [.int .i64 b] (fun _ => True) (fun _ => False) rfl rfl rfl (fun _ hk => hk.elim) (fun _ _ => trivial) HO.out HB.out HB.out.size ?aL ?_; (case aL => rw [List.length_take]; omega); intro v4' w1 ho hb hg hat; have HDO1 := Aside0.mk (Kd.R_after (ok := fun _ => True) (v := .slice (some adx) m c4) (Kd.R_mono HDO.out (fun k hk => ⟨trivial, by exact hk.2⟩)) hg hat); have HO1 := Aside0.mk ho; have HB1 := Aside0.mk hb; clear ho hb hg hat) | (at_builtin; refine Kd.R_append (Kd.int .i64) (w0 := w) w.heap.size rfl (.tmp 49) (.tmp 54) 56 3 (.int .i64 0) 8 rfl Try.underlying56 info3 rfl (by decide) (by omega) u3 don ((i : Int) - b + 1) [.int .i64 ((i : Int) - b + 1)] (fun k => True ∧ some k ≠ v4'.ownBlock) (fun _ => False) rfl rfl rfl (fun _ hk => hk.elim) (fun k hk => ⟨trivial, Kd.fresh' (Kd.R_lt HO1.out) k hk⟩) HDO1.out HB1.out HB1.out.size ?aL ?_; (case aL => omega); intro v3' w2 ho hb hg hat; have HDO2 := Aside0.mk ho; have HB2 := Aside0.mk hb; have HG2 := Aside0.mk hg; clear ho hb hg hat))
            go_roundw
            case rel =>
              have hk4 := (Kd.own_of_R HO1.out).kept HG2.out (by
                by_cases hv : v4'.ownBlock = none
                · exact .inl hv
                · right
                  intro he
                  obtain ⟨k, hk⟩ := Option.ne_none_iff_exists'.1 hv
                  exact (HDO1.out.1 k (he ▸ hk)).2 hk.symm)
              refine ⟨don ++ [(i : Int) - b + 1], op.take m ++ [b], i + 1, by go_num, by omega, ⟨?_⟩, by simp [hdl], by rw [List.length_append, List.length_take, List.length_singleton]; omega, ⟨?_⟩, ⟨Kd.R_of_own hk4 (fun _ _ => trivial)⟩, HDO2, HB2⟩
              · rw [HY0.out]; simp
              · intro e he
                rcases List.mem_append.1 he with he | he
                · have := HBD.out e (List.mem_of_mem_take he); omega
                · rw [List.mem_singleton.1 he]; omega
            case measure => simp [intOf]; omega
          · obtain rfl : kn = 0 := by omega
            rw [if_neg hkp] at hb
            subst hb
            obtain rfl : m = op.length := by have := HM.out; omega
            rw [show ((op.length : Int) - ((0 : Nat) : Int)) = (op.length : Int) by omega] at hcut
            go_wp2_with (first | (at_builtin; refine Kd.R_append (Kd.int .i64) (w0 := w) w.heap.size rfl (.tmp 45) (.tmp 47) 56 3 (.int .i64 0) 8 rfl Try.underlying56 info3 rfl (by decide) (by omega) (.slice A4 op.length c4) (op.take op.length) (i : Int) [.int .i64 (i : Int)] (fun _ => True) (fun _ => False) rfl rfl rfl (fun _ hk => hk.elim) (fun _ _ => trivial) HO.out HB.out HB.out.size ?aL ?_; (case aL => rw [List.length_take]; omega); intro v4' w1 ho hb hg hat; have HDO1 := Aside0.mk (Kd.R_after (ok := fun _ => True) (v := .slice A4 op.length c4) (Kd.R_mono HDO.out (fun k hk => ⟨trivial, by cases A4 <;> exact hk.2⟩)) hg hat); have HO1 := Aside0.mk ho; have HB1 := Aside0.mk hb; clear ho hb hg hat) | (at_builtin; refine Kd.R_append (Kd.int .i64) (w0 := w) w.heap.size rfl (.tmp 49) (.tmp 54) 56 3 (.int .i64 0) 8 rfl Try.underlying56 info3 rfl (by decide) (by omega) u3 don 1 [.int .i64 1] (fun k => True ∧ some k ≠ v4'.ownBlock) (fun _ => False) rfl rfl rfl (fun _ hk => hk.elim) (fun k hk => ⟨trivial, Kd.fresh' (Kd.R_lt HO1.out) k hk⟩) HDO1.out HB1.out HB1.out.size ?aL ?_; (case aL => omega); intro v3' w2 ho hb hg hat; have HDO2 := Aside0.mk ho; have HB2 := Aside0.mk hb; have HG2 := Aside0.mk hg; clear ho hb hg hat))
            go_roundw
            case rel =>
              have hk4 := (Kd.own_of_R HO1.out).kept HG2.out (by
                by_cases hv : v4'.ownBlock = none
                · exact .inl hv
                · right
                  intro he
                  obtain ⟨k, hk⟩ := Option.ne_none_iff_exists'.1 hv
                  exact (HDO1.out.1 k (he ▸ hk)).2 hk.symm)
              refine ⟨don ++ [1], op.take op.length ++ [(i : Int)], i + 1, by go_num, by omega, ⟨?_⟩, by simp [hdl], by rw [List.length_append, List.length_take, List.length_singleton]; omega, ⟨?_⟩, ⟨Kd.R_of_own hk4 (fun _ _ => trivial)⟩, HDO2, HB2⟩
              · rw [HY0.out]; simp
              · intro e he
                rcases List.mem_append.1 he with he | he
                · have := HBD.out e (List.mem_of_mem_take he); omega
                · rw [List.mem_singleton.1 he]; omega
            case measure => simp [intOf]; omega
      · obtain rfl : i = l0.length := by omega
        have hY0 : r = don := by
          rw [← HRES.out, sizesP, HEQ.out, List.drop_of_length_le (by simp), szs]
          simp
        subst hY0
        go_wp2
        go_ret
        exact ⟨_, rfl, Kd.R_mono HDO.out (fun _ _ => trivial), HB.out⟩
  · rw [if_neg hbig] at h
    cases h
end Go.Proofs.Ytoioineibfldcaa.K
