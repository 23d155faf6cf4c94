/-
  impl.heights's function literal (function 58), for every list of nodes that reads: it yields what 'hts' says of the kid counts, and between two rounds it writes only blocks of its own (a stack, copies of nodes). Condition: at most 2932031007402 nodes.
-/
import Derived.Test.YtoioineibfldcaaHBase
import Derived.OwnWalkIn
import Derived.TacticsInMore
import Derived.LoopNIn
import Derived.LoopIn
import Derived.Deep.DeepCutAuto
import Derived.Deep.CutBlock
import Derived.Deep.RegionLaw
set_option linter.unusedVariables false
namespace Go.Proofs.Ytoioineibfldcaa.K
open Go.RowKit Go.Proofs.YtoioineibfldcaaW.PrintWords Go.Proofs.YtoioineibfldcaaW.PrintLast Go.Proofs.YtoioineibfldcaaW.PrintMore
open Go.Proofs.Ytoioineibfldcaa.T
attribute [local go_sem] max2_int min2_int max_two min_two max_three min_three max_four min_four
set_option maxRecDepth 100000
set_option maxHeartbeats 2000000

abbrev kP : Kd (Int × Int) := Kd.pair (Kd.int .i64) (Kd.int .i64)
theorem info76 : (Try.prog.info? 76).map (fun i => (i.zero, i.size, i.bytes)) = some (some (.agg #[.int .i64 0, .int .i64 0]), 2, 16) := by kernel_rfl

theorem cut_stack (A : Option Addr) (c : Nat) (st : List (Int × Int)) (k : Nat) (hk : k ≤ st.length) (hc : st.length ≤ c) :
    ∃ A' c', (∀ W : World, (Instr.slice 74 (.slice A st.length c) (some (.int .i64 ((st.length : Int) - (k : Int)))) none none).run Try.prog W = .ok (.slice A' k c') W) ∧
      (∀ w : World, Kd.C kP w A st.length st → Kd.C kP w A' k (st.drop (st.length - k))) := by
  obtain ⟨i0, hi, hz0, hz1, hz2⟩ := info_parts info76
  have h := cut_from (P := Try.prog) 74 76 .i64 Try.underlying74 hi 2 hz1 A st.length c ((st.length : Int) - (k : Int)) (by omega) (by omega)
  have e1 : ((st.length : Int) - (k : Int)).toNat = st.length - k := by omega
  have e2 : st.length - (st.length - k) = k := by omega
  rw [e1, e2] at h
  refine ⟨_, _, h, fun w hr => ?_⟩
  have := Kd.C_drop (k := kP) (c := c) (m := st.length - k) hr (by omega) hc
  rwa [List.length_drop, e2] at this

theorem heights1 (n : Nat) (A : Option Addr) (c0 : Nat) (l0 : List S41) (w0 w : World) (Bt : Nat) (hbig : l0.length ≤ 2932031007402) (hr0 : Kd.C k41 w0 A l0.length l0) (hb0 : Below w0.heap.size w0 w) (hBt : Blk w Bt 26 #[.slice A l0.length c0]) :
    SeqT Fence.wide n Try.prog 58 #[.pointer (some ⟨Bt, 0, none⟩)] encsH MiH MrH w0.heap.size (hts [] 0 (l0.map (·.f3))) w := by
  intro l J Jx W hW hJ hJx hY h0
  refine callsIn_wide.2 ?_
  have hBt' : W.cell? ⟨Bt, 0, none⟩ = some (.slice A l0.length c0) := ((hW.cell (p := ⟨Bt, 0, none⟩) hBt.lt).trans (hBt.cell 0))
  have H0 := Aside0.mk h0
  have HY := Aside0.mk hY
  have HJ := Aside0.mk hJ
  have HJx := Aside0.mk hJx
  have HR0 := Aside0.mk hr0
  have HW := Aside0.mk hW
  have HB0 := Aside0.mk hb0
  clear h0 hY hJ hJx hr0 hb0 hW hBt
  go_enter Try.func58, Try.ntmps58
  go_wp2
  go_loopw [3, 11] (fun v3 v11 wr => ∃ (pre st : List (Int × Int)) (i : Nat), v11 = .int .i64 i ∧ i ≤ l0.length ∧ Aside0 (hts [] 0 (l0.map (·.f3)) = pre ++ hts st i ((l0.map (·.f3)).drop i)) ∧ Aside0 (Kd.R kP 76 wr W.heap.size (fun _ => True) v3 st) ∧ Aside0 (J pre wr) ∧ Aside0 (Below w0.heap.size w0 wr) ∧ W.heap.size ≤ wr.heap.size ∧ Aside0 (∀ e ∈ st, 1 ≤ e.1 ∧ e.1 ≤ i ∧ 0 ≤ e.2 ∧ e.2 < i) ∧ st.length ≤ i)
    (fun _ i _ => l0.length - (intOf i).toNat)
  case atStart => exact ⟨[], [], 0, rfl, Nat.zero_le _, ⟨rfl⟩, ⟨Kd.R_nil _ _ _ _ _⟩, H0, ⟨HB0.out.trans (HW.out.mono HB0.out.size)⟩, Nat.le_refl _, ⟨by simp⟩, Nat.zero_le _⟩
  case round =>
    obtain ⟨pre, st, i, rfl, hi, HEQ, HST, HJP, HB, HBW, HBD, hsl⟩ := hrel
    obtain ⟨wo, rfl⟩ : ∃ wo : World, wo = wr := ⟨_, rfl⟩
    by_cases hlt : i < l0.length
    · obtain ⟨ad, hA, hx0, hx1, hx2, hx3, hx4⟩ := at_T41 HR0.out (i : Int) (by omega) (by omega)
      subst hA
      replace hx0 := (HB.out.cell (World.block_lt_of_cell? w0 _ hx0)).trans hx0
      replace hx1 := (HB.out.cell (World.block_lt_of_cell? w0 _ hx1)).trans hx1
      replace hx2 := (HB.out.cell (World.block_lt_of_cell? w0 _ hx2)).trans hx2
      replace hx3 := (HB.out.cell (World.block_lt_of_cell? w0 _ hx3)).trans hx3
      replace hx4 := (HB.out.cell (World.block_lt_of_cell? w0 _ hx4)).trans hx4
      rw [Int.toNat_natCast] at hx0 hx1 hx2 hx3 hx4
      obtain ⟨nd, hnd⟩ : ∃ nd, rd_T41 l0 (i : Int) = nd := ⟨_, rfl⟩
      rw [hnd] at hx0 hx1 hx2 hx3 hx4
      have HND := Aside0.mk hnd
      clear hnd
      obtain ⟨A3, c3, e3, h3⟩ : ∃ A3 c3, u3 = .slice A3 st.length c3 ∧ st.length ≤ c3 := by
        obtain ⟨A3, c3, e3, h3, _⟩ := Kd.R_reads HST.out
        exact ⟨A3, c3, e3, h3⟩
      subst e3
      by_cases hn0 : nd.f3 < 0 ∨ (st.length : Int) < nd.f3
      · have hY0 : hts [] 0 (l0.map (·.f3)) = pre ++ [(-1, -1)] := by
          rw [HEQ.out, drop_f3 l0 i hlt, HND.out, hts_bad _ _ _ _ hn0]
        have HY0 := Aside0.mk hY0
        clear hY0
        have hj1 : J pre (wo.alloc (Obj.cells #[Value.int IntKind.i64 nd.f0, Value.int IntKind.i64 nd.f1, Value.string nd.f2, Value.int IntKind.i64 nd.f3, Value.int IntKind.i64 nd.f4] 41)) := HJ.out _ _ _ HJP.out ((Turn.refl _ _ _).alloc _)
        obtain ⟨fn, tmps, assign, body, hy, hR⟩ := HY.out pre (-1, -1) _ hj1 (by rw [HY0.out]; exact List.prefix_refl _)
        clear hj1
        have HR := Aside0.mk hR
        clear hR
        by_cases hn1 : nd.f3 < 0
        all_goals
          first | (have hn2 : (st.length : Int) < nd.f3 := by rcases hn0 with h | h; exact absurd h hn1; exact h) | skip
          clear hn0
          go_upto_region 5 with (fail)
          refine (wpIn_wide (n := n)).1 ?_
          gi_wp2
          refine ⟨fun h => by simp [Fence.wide] at h, HR.out.mono ?_⟩
          rintro e W' (⟨rfl, h1, h2⟩ | ⟨rfl, h1⟩)
          · have H1 := Aside0.mk h1
            clear h1 h2
            gi_wp2
            try go_wp2
            refine bodyPost_ret (results_none rfl _ _ _) rfl ?_
            exact ⟨⟨_, rfl⟩, .inl (by rw [HY0.out]; exact H1.out)⟩
          · have H1 := Aside0.mk h1
            clear h1
            gi_wp2
            try go_wp2
            refine bodyPost_ret (results_none rfl _ _ _) rfl ?_
            exact ⟨⟨_, rfl⟩, .inr ⟨_, by rw [HY0.out]; exact List.prefix_refl _, H1.out⟩⟩
      · obtain ⟨kn, hkn⟩ : ∃ kn : Nat, nd.f3 = kn := ⟨nd.f3.toNat, by omega⟩
        rw [hkn] at hx3
        have hk0 : ¬ ((kn : Int) < 0) := by omega
        have hk1 : kn ≤ st.length := by omega
        have hk2 : ¬ (st.length < kn) := by omega
        have HKN := Aside0.mk hkn
        clear hn0 hkn
        obtain ⟨A', c', hcut, hrd⟩ := cut_stack A3 c3 st kn hk1 h3
        have HRD := Aside0.mk hrd
        clear hrd
        go_upto_region 8 with (fail)
        go_loopw [38] (fun v38 w2 => ∃ (j : Nat) (d f : Int), v38 = .int .i64 j ∧ j ≤ kn ∧ Aside0 ((d, f) = foldKids (1, (i : Int)) ((st.drop (st.length - kn)).take j)) ∧ 1 ≤ d ∧ d ≤ i + 1 ∧ wo.heap.size + 1 < w2.heap.size ∧ Aside0 (Blk w2 wo.heap.size 41 #[Value.int IntKind.i64 nd.f0, Value.int IntKind.i64 nd.f1, Value.string nd.f2, Value.int IntKind.i64 kn, Value.int IntKind.i64 nd.f4]) ∧ Aside0 (Blk w2 (wo.heap.size + 1) 76 #[Value.int IntKind.i64 d, Value.int IntKind.i64 f]) ∧ Aside0 (Turn MiH W.heap.size wo w2) ∧ Aside0 (Kd.R kP 76 w2 W.heap.size (fun k => k < wo.heap.size) (.slice A3 st.length c3) st))
          (fun j _ => kn - (intOf j).toNat)
        case atStart =>
          refine ⟨0, 1, i, rfl, Nat.zero_le _, ⟨rfl⟩, by omega, by omega, by simp, ⟨(Blk.new wo 41 _).alloc _⟩, ⟨?_⟩, ⟨((Turn.refl _ _ _).alloc _).alloc _⟩, ⟨Kd.R_alloc (Kd.R_alloc (Kd.R_mono (Kd.R_bound HST.out) (fun k hk => hk.2.2.1)) _) _⟩⟩
          have := Blk.new (wo.alloc (Obj.cells #[Value.int IntKind.i64 nd.f0, Value.int IntKind.i64 nd.f1, Value.string nd.f2, Value.int IntKind.i64 kn, Value.int IntKind.i64 nd.f4] 41)) 76 #[Value.int IntKind.i64 1, Value.int IntKind.i64 i]
          rwa [World.size_alloc] at this
        case round =>
          obtain ⟨j, d, f, rfl, hj, HF, hd1, hd2, hsz, HB5, HB6, HT, HS2⟩ := hrel
          by_cases hjl : j < kn
          · have hC := HRD.out wr (Kd.R_reads' HS2.out).2.2
            obtain ⟨ad', cs, hA', _, hK, hc⟩ := Kd.C_get hC ((0, 0) : Int × Int) (j : Int) (by omega) (by omega)
            subst hA'
            obtain ⟨kid, hkid⟩ : ∃ kid, (st.drop (st.length - kn)).getD (j : Int).toNat ((0, 0) : Int × Int) = kid := ⟨_, rfl⟩
            rw [hkid] at hK
            obtain rfl : cs = [.int .i64 kid.1, .int .i64 kid.2] := by
              obtain ⟨_, _, rfl, rfl, rfl⟩ := hK
              rfl
            have hy0 := hc 0 _ rfl
            have hy1 := hc 1 _ rfl
            rw [Nat.add_zero, Int.toNat_natCast] at hy0
            rw [add_field _ _ 1 (by omega), Int.toNat_natCast] at hy1
            rw [show kP.sz = 2 from rfl] at hy0 hy1
            have HKID := Aside0.mk hkid
            clear hkid hK hc hC
            have hz3 := HB5.out.cell 3
            have h60 := HB6.out.cell 0
            have h61 := HB6.out.cell 1
            have h6f0 := HB6.out.frozen 0
            have h6f1 := HB6.out.frozen 1
            simp only [List.getElem?_toArray, List.getElem?_cons_zero, List.getElem?_cons_succ] at h60 h61 hz3
            have hkb : 1 ≤ kid.1 ∧ kid.1 ≤ i ∧ 0 ≤ kid.2 ∧ kid.2 < i := by
              refine HBD.out kid (List.mem_of_mem_drop (i := st.length - kn) ?_)
              rw [← HKID.out, Int.toNat_natCast, List.getD_eq_getElem?_getD, List.getElem?_eq_getElem (by rw [List.length_drop]; omega)]
              exact List.getElem_mem _
            obtain ⟨hkb1, hkb2, hkb3, hkb4⟩ := hkb
            have HW6 : W.heap.size ≤ wo.heap.size + 1 := Nat.le_succ_of_le HBW
            have hfold : foldKids (1, (i : Int)) ((st.drop (st.length - kn)).take (j + 1)) = foldKid (d, f) kid (j == 0) := by
              rw [foldKids_take _ _ _ (by rw [List.length_drop]; omega), HF.out, ← HKID.out, Int.toNat_natCast]
            have HFOLD := Aside0.mk hfold
            clear hfold
            have hM : MiH (.cells #[Value.int IntKind.i64 d, Value.int IntKind.i64 f] 76 (0, 0)) := ⟨_, _, _, rfl, by simp⟩
            have hM' : MiH (.cells (#[Value.int IntKind.i64 d, Value.int IntKind.i64 f].setIfInBounds 1 (Value.int IntKind.i64 kid.2)) 76 (0, 0)) := ⟨_, _, _, rfl, by simp⟩
            by_cases hj0 : j = 0
            · have hjb : ((j : Int) == 0) = true := by simp [hj0]
              have HJ0 := Aside0.mk hj0
              clear hj0
              go_wp2
              go_roundw
              case rel =>
                refine ⟨j + 1, if d < kid.1 + 1 then kid.1 + 1 else d, kid.2, by go_num, by omega, ⟨?_⟩, by split <;> omega, by split <;> omega, by simp; omega, ⟨?_⟩, ⟨?_⟩, ⟨?_⟩, ⟨?_⟩⟩
                · rw [HFOLD.out]; simp [foldKid, HJ0.out]
                · exact ((HB5.out.far (p := ⟨wo.heap.size + 1, 1, none⟩) (by simp) _).far (p := ⟨wo.heap.size + 1, 0, none⟩) (by simp) _).alloc _
                · exact ((HB6.out.set_ 1 _).set_ 0 _).alloc _
                · exact ((HT.out.setCell (p := ⟨wo.heap.size + 1, 1, none⟩) HW6 HB6.out hM _).setCell (p := ⟨wo.heap.size + 1, 0, none⟩) HW6 (HB6.out.set_ 1 _) hM' _).alloc _
                · exact Kd.R_alloc (Kd.R_far (p := ⟨wo.heap.size + 1, 0, none⟩) (Kd.R_far (p := ⟨wo.heap.size + 1, 1, none⟩) HS2.out (fun k hk => by simp; omega) _) (fun k hk => by simp; omega) _) _
              case measure => simp [intOf]; omega
            · have hjb : ((j : Int) == 0) = false := by simp; omega
              have HJ0 := Aside0.mk hj0
              clear hj0
              go_wp2
              go_roundw
              case rel =>
                refine ⟨j + 1, if d < kid.1 + 1 then kid.1 + 1 else d, f, by go_num, by omega, ⟨?_⟩, by split <;> omega, by split <;> omega, by simp; omega, ⟨?_⟩, ⟨?_⟩, ⟨?_⟩, ⟨?_⟩⟩
                · rw [HFOLD.out]; simp [foldKid, HJ0.out]
                · exact (HB5.out.far (p := ⟨wo.heap.size + 1, 0, none⟩) (by simp) _).alloc _
                · exact (HB6.out.set_ 0 _).alloc _
                · exact (HT.out.setCell (p := ⟨wo.heap.size + 1, 0, none⟩) HW6 HB6.out hM _).alloc _
                · exact Kd.R_alloc (Kd.R_far (p := ⟨wo.heap.size + 1, 0, none⟩) HS2.out (fun k hk => by simp; omega) _) _
              case measure => simp [intOf]; omega
          · obtain rfl : j = kn := by omega
            obtain ⟨m, hm⟩ : ∃ m, m = st.length - j := ⟨_, rfl⟩
            have hY0 : hts [] 0 (l0.map (·.f3)) = pre ++ (d, f) :: hts (st.take m ++ [(d, f)]) ((i : Int) + 1) ((l0.map (·.f3)).drop (i + 1)) := by
              have e1 : st.length - (rd_T41 l0 (i : Int)).f3.toNat = m := by rw [HND.out, HKN.out]; omega
              have e2 : foldKids (1, (i : Int)) (st.drop m) = (d, f) := by
                rw [HF.out, ← hm, List.take_of_length_le (by rw [List.length_drop]; omega)]
              rw [HEQ.out, drop_f3 l0 i hlt, hts_ok _ _ _ _ (by rw [HND.out, HKN.out]; omega), e1, e2]
            have HY0 := Aside0.mk hY0
            clear hY0
            have HNE := Aside0.mk (Kd.R_away (g := wo.heap.size + 1) (Kd.R_take (m := m) HS2.out (by omega)) (fun k hk => by omega))
            have HRW : Aside0 (∀ k, (Value.slice A3 m c3).ownBlock = some k → W.heap.size ≤ k ∧ ∃ o, wr.drew.heap[k]? = some o ∧ MiH o) := ⟨fun k hk => by
              have hr := Kd.R_take (m := m) HS2.out (by omega)
              obtain ⟨inner, ho⟩ := Kd.R_own hr
              obtain ⟨cells, hc⟩ := own_typed ho k hk
              exact ⟨own_base ho k hk, _, hc, _, _, _, rfl, by simp⟩⟩
            have hwr : IntKind.i64.wrap ((st.length : Int) - (j : Int)) = (m : Int) := by rw [i64_w]; unfold wrap64; omega
            have hmc : m ≤ c3 := by omega
            have HM := Aside0.mk hm
            have HO := Aside0.mk (Kd.R_mono (ok' := fun k => k < wo.heap.size ∨ wr.heap.size ≤ k) (Kd.R_take (m := m) HS2.out (by omega)) (fun k hk => .inl hk))
            have hz3 := HB5.out.cell 3
            have h60 := HB6.out.cell 0
            have h61 := HB6.out.cell 1
            simp only [List.getElem?_toArray, List.getElem?_cons_zero, List.getElem?_cons_succ] at h60 h61 hz3
            have hz3a := fun o => (HB5.out.alloc o).cell 3
            simp only [List.getElem?_toArray, List.getElem?_cons_zero, List.getElem?_cons_succ] at hz3a
            clear hm
            go_wp2
            go_region_law (refine Kd.R_append_step kP (w0 := wr.drew) (W := wr.drew) W.heap.size (by simp [Region.wanted]) (.tmp 62) (.tmp 64) 74 76 (.agg #[.int .i64 0, .int .i64 0]) 16 rfl Try.underlying74 info76 rfl (by decide) (by omega) (.slice A3 m c3) (st.take m) (d, f) [.int .i64 d, .int .i64 f] (fun k => k < wo.heap.size ∨ wr.heap.size ≤ k) (fun _ => False) rfl rfl ⟨_, _, rfl, rfl, rfl⟩ (fun _ h => h.elim) (fun k hk => .inr hk) (by (with_reducible repeat (first | apply Kd.R_alloc | apply Kd.R_drewN | apply Kd.R_drew)); exact HO.out) (Below.refl _ _) ?hb1 ?hb2 ?_; (case hb1 => have := HBW; have := HT.out.size; show _ ≤ wr.heap.size; omega); (case hb2 => rw [List.length_take]; omega); intro v1 w1 ho hb hg hat)
            all_goals
              have HV := Aside0.mk ho
              have hg1 := (HB6.out.drew).grown hg HNE.out
              have h60 := hg1.cell 0
              have h61 := hg1.cell 1
              simp only [List.getElem?_toArray, List.getElem?_cons_zero, List.getElem?_cons_succ] at h60 h61
              have ht1 : Turn MiH W.heap.size wo w1 := HT.out.drew.grown hg HRW.out
              have HT1 := Aside0.mk ht1
              have hj1 : J pre w1 := HJ.out _ _ _ HJP.out (ht1.lower HW.out.size)
              obtain ⟨fn, tmps, assign, body, hy, hR⟩ := HY.out pre (d, f) _ hj1 (by rw [HY0.out]; exact pre_snoc _ _ _)
              have HR := Aside0.mk hR
              clear hR hj1 ht1 hg1 ho hb hg hat
              go_upto_region 15 with (fail)
              refine (wpIn_wide (n := n)).1 ?_
              gi_wp2
              refine ⟨fun h => by simp [Fence.wide] at h, HR.out.mono ?_⟩
              rintro e W' (⟨rfl, h1, h2⟩ | ⟨rfl, h1⟩)
              · have H1 := Aside0.mk h1
                have H2 := Aside0.mk h2
                clear h1 h2
                gi_wp2
                try go_wp2
                go_roundw
                case rel =>
                  have hsz1 := HT1.out.size
                  have hsz2 := H2.out.size
                  refine ⟨pre ++ [(d, f)], st.take m ++ [(d, f)], i + 1, by go_num, by omega, ⟨?_⟩, ⟨?_⟩, H1, ⟨?_⟩, by omega, ⟨?_⟩, ?_⟩
                  · rw [HY0.out]; simp
                  · refine Kd.R_mono (Kd.R_move (Kd.R_bound HV.out) (fun k hk => ?_)) (fun _ _ => trivial)
                    obtain ⟨_, _, hk1, q, hq, cells, hc⟩ := hk
                    obtain rfl : q = 76 := by simpa [kP, Kd.pair, Kd.int, Kd.scalar] using hq
                    exact (H2.out.keep hc (by rintro (h | ⟨cs, e, fr, h, he⟩); cases h; cases h; simp at he)).trans hc.symm
                  · have hb1 : Below w0.heap.size w0 w1 := HB.out.trans ((HT1.out.below HBW).mono (Nat.le_trans HB0.out.size HW.out.size))
                    exact hb1.trans (H2.out.below hb1.size)
                  · intro e he
                    rcases List.mem_append.1 he with he | he
                    · have := HBD.out e (List.mem_of_mem_take he); omega
                    · obtain rfl := List.mem_singleton.1 he
                      have hs := foldKids_snd (1, (i : Int)) i ((st.drop (st.length - j)).take j) (by simp) (fun e he => (HBD.out e (List.mem_of_mem_drop (List.mem_of_mem_take he))).2.2)
                      rw [← HF.out] at hs
                      simp only at hs
                      refine ⟨hd1, ?_, hs.1, ?_⟩ <;> simp only <;> omega
                  · rw [List.length_append, List.length_take, List.length_singleton]; omega
                case measure => simp [intOf]; omega
              · have H1 := Aside0.mk h1
                clear h1
                gi_wp2
                try go_wp2
                refine bodyPost_ret (results_none rfl _ _ _) rfl ?_
                exact ⟨⟨_, rfl⟩, .inr ⟨_, by rw [HY0.out]; exact pre_snoc _ _ _, H1.out⟩⟩
    · obtain rfl : i = l0.length := by omega
      obtain ⟨A3, c3, e3, h3⟩ : ∃ A3 c3, u3 = .slice A3 st.length c3 ∧ st.length ≤ c3 := by
        obtain ⟨A3, c3, e3, h3, _⟩ := Kd.R_reads HST.out
        exact ⟨A3, c3, e3, h3⟩
      subst e3
      by_cases h1 : st.length = 1
      · have hb : ((st.length : Int) != 1) = false := by simp [h1]
        have HY0 : Aside0 (hts [] 0 (l0.map (·.f3)) = pre) := ⟨by rw [HEQ.out, List.drop_of_length_le (by simp), hts, if_pos h1, List.append_nil]⟩
        clear h1
        go_wp2
        go_end0
        exact ⟨⟨_, rfl⟩, .inl (by rw [HY0.out]; exact HJP.out)⟩
      · have hb : ((st.length : Int) != 1) = true := by simp; omega
        have HY0 : Aside0 (hts [] 0 (l0.map (·.f3)) = pre ++ [(-1, -1)]) := ⟨by rw [HEQ.out, List.drop_of_length_le (by simp), hts, if_neg h1]⟩
        obtain ⟨fn, tmps, assign, body, hy, hR⟩ := HY.out pre (-1, -1) _ HJP.out (by rw [HY0.out]; exact List.prefix_refl _)
        have HR := Aside0.mk hR
        clear hR h1
        go_upto_region 18 with (fail)
        refine (wpIn_wide (n := n)).1 ?_
        gi_wp2
        refine ⟨fun h => by simp [Fence.wide] at h, HR.out.mono ?_⟩
        rintro e W' (⟨rfl, h1, h2⟩ | ⟨rfl, h1⟩)
        · have H1 := Aside0.mk h1
          clear h1 h2
          gi_wp2
          try go_wp2
          go_end0
          exact ⟨⟨_, rfl⟩, .inl (by rw [HY0.out]; exact H1.out)⟩
        · have H1 := Aside0.mk h1
          clear h1
          gi_wp2
          try go_wp2
          go_end0
          exact ⟨⟨_, rfl⟩, .inr ⟨_, by rw [HY0.out]; exact List.prefix_refl _, H1.out⟩⟩
end Go.Proofs.Ytoioineibfldcaa.K
