/-
  impl.measure (function 43) hands back, in new memory, what 'measL' makes of what impl.heights yields for the list's kid counts. Condition: at most 2932031007402 nodes.
-/
import Derived.Test.YtoioineibfldcaaHHeights
import Derived.RangeFuncBox
import Derived.Maps.AppendAt
import Derived.Shelf.Abstract
import Derived.Shelf.RegionOpen
import Derived.WalkKit
set_option linter.unusedVariables false
namespace Go.Proofs.Ytoioineibfldcaa.K
open Go.RowKit Go.Proofs.YtoioineibfldcaaW.PrintWords Go.Proofs.YtoioineibfldcaaW.PrintLast Go.Proofs.YtoioineibfldcaaW.PrintMore
open Go.Proofs.Ytoioineibfldcaa.T
attribute [local go_sem] Oper.semAt_some
set_option maxRecDepth 100000
set_option maxHeartbeats 2000000

/-- What measure makes of what heights yields. -/
def measL (Y : List (Int × Int)) : Int × List Int := if Y.any (fun x => decide (x.1 < 0)) = true then (0, []) else (((Y.getLast?).map (·.1)).getD 0, Y.map (·.2))
def impl_measure.f (l0 : List S41) : Option (Int × List Int) := if l0.length ≤ 2932031007402 then some (measL (hts [] 0 (l0.map (·.f3)))) else none

theorem heights_any (A : Option Addr) (c0 n : Nat) (w : World) :
    Calls Try.prog 55 #[.slice A n c0] w fun e w' => e = .returned (.func (.func 58) #[] #[.pointer (some ⟨w.heap.size, 0, none⟩)]) ∧ w.alloc (.cells #[.slice A n c0] 26) = w' := by
  go_enter Try.func55, Try.ntmps55
  go_wp2
  go_ret
  exact ⟨rfl, rfl⟩

theorem hts_len : ∀ (ks : List Int) (st : List (Int × Int)) (i : Int), (hts st i ks).length ≤ ks.length + 1
  | [], st, i => by rw [hts]; split <;> simp
  | k :: ks, st, i => by
    by_cases h : k < 0 ∨ (st.length : Int) < k
    · rw [hts_bad _ _ _ _ h]; simp
    · rw [hts_ok _ _ _ _ h, List.length_cons]
      have := hts_len ks (st.take (st.length - k.toNat) ++ [foldKids (1, i) (st.drop (st.length - k.toNat))]) (i + 1)
      simp; omega

def lastD (pre : List (Int × Int)) : Int := ((pre.getLast?).map (·.1)).getD 0
/-- Between two rounds of measure's loop. -/
def ImS (w : World) (pre : List (Int × Int)) (W : World) : Prop :=
  Blk W w.heap.size 3 #[.int .i64 0] ∧ Blk W (w.heap.size + 1) 56 #[.slice none 0 0] ∧ Blk W (w.heap.size + 2) 3 #[.int .i64 (lastD pre)] ∧
  (∃ v, Blk W (w.heap.size + 3) 56 #[v] ∧ W.ownsRow (w.heap.size + 5) 3 1 v pre.length (nums .i64 (pre.map (·.2)))) ∧ Below w.heap.size w W ∧ (∀ x ∈ pre, ¬ x.1 < 0) ∧ w.heap.size + 5 ≤ W.heap.size
def IxS (w : World) (c : Code) (pre : List (Int × Int)) (W : World) : Prop :=
  c = .ret ∧ (∃ x ∈ pre, x.1 < 0) ∧ Blk W w.heap.size 3 #[.int .i64 0] ∧ Blk W (w.heap.size + 1) 56 #[.slice none 0 0] ∧ Below w.heap.size w W ∧ w.heap.size + 5 ≤ W.heap.size
theorem notM {t : Nat} {cs : Array Value} {fr : Nat × Nat} (h : t ≠ 41) (h' : t ≠ 76) : ¬ (MiH (.cells cs t fr) ∨ (Obj.cells cs t fr).isCells = false) := by
  rintro (⟨cs, e, fr, he, hm⟩ | h)
  · cases he
    simp only [List.mem_cons, List.not_mem_nil, or_false] at hm
    exact hm.elim h h'
  · cases h
theorem ImS_abides (w : World) (B : Nat) (hB : w.heap.size ≤ B) : T.Abides (fun o => MiH o ∨ o.isCells = false) B (ImS w) := by
  rintro pre W W' ⟨k0, k1, k2, ⟨v, k3, ho⟩, hb, hp, hs⟩ ht
  exact ⟨k0.turn ht (notM (by decide) (by decide)), k1.turn ht (notM (by decide) (by decide)), k2.turn ht (notM (by decide) (by decide)), ⟨v, k3.turn ht (notM (by decide) (by decide)), ht.own ho (fun _ _ => notM (by decide) (by decide))⟩,
    hb.trans ⟨ht.os, ht.tape, ht.output, ht.size, fun k hk => ht.block k (by have := hb.size; omega) (.inl (by omega))⟩, hp, Nat.le_trans hs ht.size⟩
theorem IxS_abides (w : World) (c : Code) (B : Nat) (hB : w.heap.size ≤ B) : T.Abides (fun o => MiH o ∨ o.isCells = false) B (IxS w c) := by
  rintro pre W W' ⟨hc, hx, k0, k1, hb, hs⟩ ht
  exact ⟨hc, hx, k0.turn ht (notM (by decide) (by decide)), k1.turn ht (notM (by decide) (by decide)),
    hb.trans ⟨ht.os, ht.tape, ht.output, ht.size, fun k hk => ht.block k (by have := hb.size; omega) (.inl (by omega))⟩, Nat.le_trans hs ht.size⟩

theorem impl_measure.calls (A0 : Option Addr) (c0 : Nat) (l0 : List S41) (r1 : Int) (r2 : List Int) (w : World) (hr0 : Kd.C k41 w A0 l0.length l0) (hc0 : l0.length ≤ c0) (h : impl_measure.f l0 = some (r1, r2)) :
    Calls Try.prog 43 #[.slice A0 l0.length c0] w fun e w' => ∃ v1_ : Value, e = .returned (.tuple #[.int .i64 r1, v1_]) ∧ Kd.R (Kd.int .i64) 3 w' w.heap.size (fun _ => True) v1_ r2 ∧ Below w.heap.size w w' := by
  unfold impl_measure.f at h
  by_cases hbig : l0.length ≤ 2932031007402
  · rw [if_pos hbig] at h
    have hres := Option.some.inj h
    clear h
    have HRES := Aside0.mk hres
    have HR0 := Aside0.mk hr0
    clear hres hr0
    refine (callsIn_wide (n := 3)).1 ?_
    refine callsIn_of_wp_marks Try.func43 rfl trivial ?_ rfl
    simp only [Try.ntmps43, List.size_toArray, List.length_cons, List.length_nil, Nat.reduceAdd, Nat.reduceSub, Array.replicate_succ, Array.replicate_zero, List.push_toArray, List.append_toArray, List.nil_append, List.cons_append]
    gi_wp2_with (refine ⟨trivial, ?_⟩; gi_at_call 55; refine (callsIn_wide.2 (heights_any _ _ _ _)).mono ?_; rintro e w' ⟨rfl, rfl⟩)
    generalize hW0 : ((((w.alloc (Obj.cells #[Value.int IntKind.i64 0] 3)).alloc (Obj.cells #[Value.slice none 0 0] 56)).alloc (Obj.cells #[Value.int IntKind.i64 0] 3)).alloc (Obj.cells #[Value.slice none 0 0] 56)).alloc (Obj.cells #[Value.slice A0 l0.length c0] 26) = W0
    have hz : W0.heap.size = w.heap.size + 5 := by rw [← hW0]; simp
    have k0 : Blk W0 w.heap.size 3 #[.int .i64 0] := by rw [← hW0]; exact ((((Blk.new w 3 _).alloc _).alloc _).alloc _).alloc _
    have k1 : Blk W0 (w.heap.size + 1) 56 #[.slice none 0 0] := by
      have h := (((Blk.new (w.alloc (Obj.cells #[Value.int IntKind.i64 0] 3)) 56 #[.slice none 0 0]).alloc (Obj.cells #[Value.int IntKind.i64 0] 3)).alloc (Obj.cells #[Value.slice none 0 0] 56)).alloc (Obj.cells #[Value.slice A0 l0.length c0] 26)
      rw [← hW0]; simpa using h
    have k2 : Blk W0 (w.heap.size + 2) 3 #[.int .i64 0] := by
      have h := ((Blk.new ((w.alloc (Obj.cells #[Value.int IntKind.i64 0] 3)).alloc (Obj.cells #[Value.slice none 0 0] 56)) 3 #[.int .i64 0]).alloc (Obj.cells #[Value.slice none 0 0] 56)).alloc (Obj.cells #[Value.slice A0 l0.length c0] 26)
      rw [← hW0]; simpa using h
    have k3 : Blk W0 (w.heap.size + 3) 56 #[.slice none 0 0] := by
      have h := (Blk.new (((w.alloc (Obj.cells #[Value.int IntKind.i64 0] 3)).alloc (Obj.cells #[Value.slice none 0 0] 56)).alloc (Obj.cells #[Value.int IntKind.i64 0] 3)) 56 #[.slice none 0 0]).alloc (Obj.cells #[Value.slice A0 l0.length c0] 26)
      rw [← hW0]; simpa using h
    have k4 : Blk W0 (w.heap.size + 4) 26 #[.slice A0 l0.length c0] := by
      have h := Blk.new ((((w.alloc (Obj.cells #[Value.int IntKind.i64 0] 3)).alloc (Obj.cells #[Value.slice none 0 0] 56)).alloc (Obj.cells #[Value.int IntKind.i64 0] 3)).alloc (Obj.cells #[Value.slice none 0 0] 56)) 26 #[.slice A0 l0.length c0]
      rw [← hW0]; simpa using h
    have hB0 : Below w.heap.size w W0 := by rw [← hW0]; exact (((((Below.refl _ w).alloc (Nat.le_refl _) _).alloc (by simp) _).alloc (by simp; omega) _).alloc (by simp; omega) _).alloc (by simp; omega) _
    clear hW0
    have hYl : (hts [] 0 (l0.map (·.f3))).length ≤ l0.length + 1 := Nat.le_trans (hts_len _ _ _) (by simp)
    obtain ⟨i0, hi, hz0, hz1, hz2⟩ := info_parts info3
    refine wpIn_rangeFunc_T rfl (by omega) (gf := 58) (lb := #[.pointer (some ⟨w.heap.size + 4, 0, none⟩)]) rfl trivial (enters_of Try.func58 (by kernel_rfl) rfl)
      (Mi := MiH) (Mr := MrH) (by rintro o ⟨cs, e, fr, rfl, _⟩; rfl) (fun o h => .inl h) (B := w.heap.size) (by omega) (heights1 2 A0 c0 l0 w W0 (w.heap.size + 4) hbig HR0.out hB0 k4) (fun _ => rfl)
      (ImS w) (IxS w) (ImS_abides w _ (by omega)) (fun c => IxS_abides w c _ (by omega))
      ⟨k0, k1, k2, ⟨_, k3, World.ownsRow_nil _ _ _ _⟩, hB0, by simp, by omega⟩
      (fun x => { tmps := #[Value.slice A0 l0.length c0, undef, Value.pointer (some { block := w.heap.size, off := 0 }), Value.pointer (some { block := w.heap.size + 1, off := 0 }), Value.pointer (some { block := w.heap.size + 1 + 1, off := 0 }), Value.pointer (some { block := w.heap.size + 1 + 1 + 1, off := 0 }), .int .i64 x.1, .int .i64 x.2, Value.slice A0 l0.length c0, Value.func (Fn.func 58) #[] #[Value.pointer (some { block := w.heap.size + 1 + 1 + 1 + 1, off := 0 })], .int .i64 x.1, .int .i64 x.2, undef, undef, undef, undef, undef, undef, undef, undef, undef], defers := [] }) ?assign ?body ?done ?stop
    case assign =>
      intro l x W K hK
      gi_wp2
      exact hK
    case body =>
      rintro l pre x W ⟨k0, k1, k2, ⟨v, k3, ho⟩, hb, hp, hs⟩ hpre
      have c0 := k0.cell 0
      have c1 := k1.cell 0
      have c2 := k2.cell 0
      have c3 := k3.cell 0
      have f0 := k0.frozen 0
      have f1 := k1.frozen 0
      have f2 := k2.frozen 0
      have f3 := k3.frozen 0
      simp only [List.getElem?_toArray, List.getElem?_cons_zero] at c0 c1 c2 c3
      have hlen : pre.length + 1 ≤ l0.length + 1 := by
        have := hpre.length_le
        simp at this
        omega
      by_cases hx : x.1 < 0
      · gi_wp2
        refine ⟨(KeepsOthers.setCell _ _ _).trans (KeepsOthers.setCell _ _ _), rfl, ⟨x, by simp, hx⟩, ?_, ?_, ?_, by simpa using hs⟩
        · exact (k0.set_ 0 _).far (p := ⟨w.heap.size + 1, 0, none⟩) (by simp) _
        · exact (k1.far (p := ⟨w.heap.size, 0, none⟩) (by simp) _).set_ 0 _
        · exact (hb.setCell (p := ⟨w.heap.size, 0, none⟩) (Nat.le_refl _) _).setCell (p := ⟨w.heap.size + 1, 0, none⟩) (by simp) _
      · have hk2a : w.heap.size + 2 < W.heap.size := k2.lt
        have HO := Aside0.mk ho
        have K3 := Aside0.mk k3
        have HB := Aside0.mk hb
        have HP := Aside0.mk hp
        have K0 := Aside0.mk k0
        have K1 := Aside0.mk k1
        have K2 := Aside0.mk k2
        have HPRE := Aside0.mk hpre
        clear ho k3 hb hp k0 k1 k2 hpre
        have HN2 : Aside0 (∀ d, d < 5 → some (w.heap.size + d) ≠ v.ownBlock) := ⟨fun d hd he => by have := own_base HO.out _ he.symm; omega⟩
        have hown2 := Aside0.mk ((own_setCell (p := ⟨w.heap.size + 1 + 1, 0, none⟩) HO.out (HN2.out 2 (by omega)) (.int .i64 x.2)).alloc (Obj.cells #[Value.int IntKind.i64 x.2] 3))
        have hac := cell_one_new (W.setCell ⟨w.heap.size + 1 + 1, 0, none⟩ (.int .i64 x.1)) (.int .i64 x.2) 3
        rw [show (W.setCell ⟨w.heap.size + 1 + 1, 0, none⟩ (.int .i64 x.1)).heap.size = W.heap.size by simp [World.setCell]] at hac
        have AC := Aside0.mk hac
        clear hac
        gi_wp2_with (gi_at_builtin; refine wpListIn_append_own _ rfl (.tmp 15) (.tmp 17) 56 rfl (w.heap.size + 5) 3 i0 (.int .i64 0) 1 8 Try.underlying56 hi hz0 hz1 hz2 rfl (by decide) v pre.length (nums .i64 (pre.map (·.2))) rfl ?aO ⟨W.heap.size, 0, none⟩ 1 1 [.int .i64 x.2] rfl rfl ?aC ?aV ?a1 ?a2 ?a3 ?_; (case aO => exact (own_setCell (p := ⟨w.heap.size + 1 + 1, 0, none⟩) HO.out (HN2.out 2 (by omega)) _).alloc _); (case aC => exact AC.out); (case aV => simp [Value.oneCell']); (case a1 => unfold maxLen; omega); (case a2 => omega); (case a3 => simp [World.setCell]; omega); intro v' w1 hown' hgrow _; obtain ⟨g', cap', rfl⟩ := ownsRow_succ hown'; have k3' := ((K3.out.far (p := ⟨w.heap.size + 1 + 1, 0, none⟩) (by simp) (.int .i64 x.1)).alloc (Obj.cells #[Value.int IntKind.i64 x.2] 3)).grown hgrow (HN2.out 3 (by omega)); have c3' := k3'.cell 0; have f3' := k3'.frozen 0; (simp only [List.getElem?_toArray, List.getElem?_cons_zero] at c3'); have HOWN := Aside0.mk hown'; have HG := Aside0.mk hgrow; have K3' := Aside0.mk k3'; clear hown' hgrow k3')
        have k0' := ((K0.out.far (p := ⟨w.heap.size + 1 + 1, 0, none⟩) (by simp; omega) (.int .i64 x.1)).alloc (Obj.cells #[Value.int IntKind.i64 x.2] 3)).grown HG.out (by simpa using HN2.out 0 (by omega))
        have k1' := ((K1.out.far (p := ⟨w.heap.size + 1 + 1, 0, none⟩) (by simp) (.int .i64 x.1)).alloc (Obj.cells #[Value.int IntKind.i64 x.2] 3)).grown HG.out (HN2.out 1 (by omega))
        have k2' := ((K2.out.set_ 0 (.int .i64 x.1)).alloc (Obj.cells #[Value.int IntKind.i64 x.2] 3)).grown HG.out (HN2.out 2 (by omega))
        have hrow : ∀ k, v.ownBlock = some k → w.heap.size ≤ k ∧ ∃ o, ((W.setCell ⟨w.heap.size + 1 + 1, 0, none⟩ (.int .i64 x.1)).alloc (Obj.cells #[Value.int IntKind.i64 x.2] 3)).heap[k]? = some o ∧ MrH o := fun k hk => by
          have h2 := (own_setCell (p := ⟨w.heap.size + 1 + 1, 0, none⟩) HO.out (HN2.out 2 (by omega)) (.int .i64 x.1)).alloc (Obj.cells #[Value.int IntKind.i64 x.2] 3)
          obtain ⟨cells, hc⟩ := own_typed h2 k hk
          exact ⟨by have := own_base HO.out k hk; omega, _, hc, .inr ⟨_, _, _, rfl, by simp⟩⟩
        have t1 : Turn MrH w.heap.size W w1 := (((Turn.refl _ _ _).setCell (p := ⟨w.heap.size + 1 + 1, 0, none⟩) (by simp; omega) K2.out (.inr ⟨_, _, _, rfl, by simp⟩) _).alloc _).grown HG.out hrow
        have hlt' : w.heap.size + 5 ≤ w1.heap.size := Nat.le_trans hs t1.size
        refine ⟨?_, t1.setCell (p := ⟨w.heap.size + 1 + 1 + 1, 0, none⟩) (by simp; omega) K3'.out (.inr ⟨_, _, _, rfl, by simp⟩) _, ?_, ?_, ?_, ⟨.slice (some ⟨g', 0, none⟩) (pre.length + 1) cap', ?_, ?_⟩, ?_, ?_, by simpa using hlt'⟩
        · refine (((KeepsOthers.setCell _ _ _).trans (KeepsOthers.alloc _ _)).trans (KeepsOthers.of_grownBy HG.out (fun k o hk ho => ?_))).trans (KeepsOthers.setCell _ _ _)
          obtain ⟨_, o', ho', hM⟩ := hrow k hk
          rw [ho] at ho'
          cases ho'
          have h2 := (own_setCell (p := ⟨w.heap.size + 1 + 1, 0, none⟩) HO.out (HN2.out 2 (by omega)) (.int .i64 x.1)).alloc (Obj.cells #[Value.int IntKind.i64 x.2] 3)
          obtain ⟨cells, hc⟩ := own_typed h2 k hk
          rw [ho] at hc
          cases hc
          rfl
        · exact k0'.far (p := ⟨w.heap.size + 1 + 1 + 1, 0, none⟩) (by first | (simp; done) | (simp; omega)) _
        · exact k1'.far (p := ⟨w.heap.size + 1 + 1 + 1, 0, none⟩) (by first | (simp; done) | (simp; omega)) _
        · have := k2'.far (p := ⟨w.heap.size + 1 + 1 + 1, 0, none⟩) (by simp) (.slice (some ⟨g', 0, none⟩) (pre.length + 1) cap')
          simpa [lastD] using this
        · exact K3'.out.set_ 0 _
        · have h5 := own_setCell (p := ⟨w.heap.size + 1 + 1 + 1, 0, none⟩) HOWN.out (fun he => by have := own_base HOWN.out _ he.symm; simp only at this; omega) (.slice (some ⟨g', 0, none⟩) (pre.length + 1) cap')
          simpa [nums] using h5
        · exact HB.out.trans ((t1.setCell (p := ⟨w.heap.size + 1 + 1 + 1, 0, none⟩) (by simp; omega) K3'.out (.inr ⟨_, _, _, rfl, by simp⟩) _).below HB.out.size)
        · intro y hy
          rcases List.mem_append.1 hy with hy | hy
          · have := HP.out y hy; omega
          · rw [List.mem_singleton.1 hy]; omega
    case done =>
      rintro D W hD ⟨k0, k1, k2, ⟨v, k3, ho⟩, hb, hp, hs⟩ hK
      have hD' : w.heap.size + 5 ≤ D := by omega
      obtain ⟨A5, c5, e5⟩ := own_slice ho
      subst e5
      have c0 := k0.cell 0
      have c1 := k1.cell 0
      have c2 := k2.cell 0
      have c3 := k3.cell 0
      have f0 := k0.frozen 0
      have f1 := k1.frozen 0
      simp only [List.getElem?_toArray, List.getElem?_cons_zero] at c0 c1 c2 c3
      clear hD

      gi_wp2
      gi_region
      gi_wp2
      obtain ⟨X, hX⟩ : ∃ X, ((W.setCell ⟨w.heap.size, 0, none⟩ (Value.int IntKind.i64 (lastD (hts [] 0 (List.map (fun x => x.f3) l0))))).setCell ⟨w.heap.size + 1, 0, none⟩ (Value.slice A5 (hts [] 0 (List.map (fun x => x.f3) l0)).length c5)).drew = X := ⟨_, rfl⟩
      rw [hX]
      have hKX : X.heap[D]? = some (.deferred (some [])) := by rw [← hX]; exact ((KeepsOthers.setCell _ _ _).trans (KeepsOthers.setCell _ _ _)).same D _ hK rfl
      have m0 : Blk X w.heap.size 3 #[Value.int IntKind.i64 (lastD (hts [] 0 (List.map (fun x => x.f3) l0)))] := by
        rw [← hX]; exact ((k0.set_ 0 _).far (p := ⟨w.heap.size + 1, 0, none⟩) (by simp) _).drew
      have m1 : Blk X (w.heap.size + 1) 56 #[Value.slice A5 (hts [] 0 (List.map (fun x => x.f3) l0)).length c5] := by
        rw [← hX]; exact ((k1.far (p := ⟨w.heap.size, 0, none⟩) (by simp) _).set_ 0 _).drew
      have hown : X.ownsRow (w.heap.size + 5) 3 1 (Value.slice A5 (hts [] 0 (List.map (fun x => x.f3) l0)).length c5) (hts [] 0 (List.map (fun x => x.f3) l0)).length (nums .i64 ((hts [] 0 (l0.map (·.f3))).map (·.2))) := by
        rw [← hX]
        have h5 := own_setCell (p := ⟨w.heap.size + 1, 0, none⟩) (own_setCell (p := ⟨w.heap.size, 0, none⟩) ho (fun he => by have := own_base ho _ he.symm; simp only at this; omega) (Value.int IntKind.i64 (lastD (hts [] 0 (List.map (fun x => x.f3) l0))))) (fun he => by have := own_base ho _ he.symm; simp only at this; omega) (Value.slice A5 (hts [] 0 (List.map (fun x => x.f3) l0)).length c5)
        exact h5
      have hbX : Below w.heap.size w X := by rw [← hX]; exact ((hb.setCell (p := ⟨w.heap.size, 0, none⟩) (Nat.le_refl _) _).setCell (p := ⟨w.heap.size + 1, 0, none⟩) (by simp) _).drew
      clear hX k0 k1 k2 k3 ho hb c0 c1 c2 c3 f0 f1
      have g := grownBy_putObj' X D (.deferred none)
      have n0 := (m0.grown g (by simp; omega)).cell 0
      have n1 := (m1.grown g (by simp; omega)).cell 0
      simp only [List.getElem?_toArray, List.getElem?_cons_zero] at n0 n1
      have hres : (r1, r2) = (lastD (hts [] 0 (l0.map (·.f3))), (hts [] 0 (l0.map (·.f3))).map (·.2)) := by
        rw [← HRES.out, measL, if_neg (by simp only [List.any_eq_true, decide_eq_true_eq, not_exists, not_and]; exact fun x hx => by have := hp x hx; omega)]
        rfl
      obtain ⟨rfl, rfl⟩ := Prod.mk.inj hres
      refine ⟨by simp, .inl ⟨_, _, rfl, run_takeDeferred hKX, ?_⟩⟩
      refine ⟨.tuple #[.int .i64 (lastD (hts [] 0 (l0.map (·.f3)))), Value.slice A5 (hts [] 0 (List.map (fun x => x.f3) l0)).length c5], ?_, _, rfl, ?_, hbX.trans ((Below.refl _ _).grown g hbX.size (fun k e => by cases e; omega))⟩
      · simp [results, Try.f43, go_sem, n0, n1]
      · have h6 := hown.kept g (by right; intro he; have := (hown.lt D he); obtain ⟨cells, hc⟩ := own_typed hown D he; rw [hKX] at hc; cases hc)
        have h7 := own_weaken h6 (show w.heap.size ≤ w.heap.size + 5 by omega)
        refine Kd.R_of_own ?_ (fun _ _ => trivial)
        simpa [encs, nums] using h7
    case stop =>
      rintro D c pre W hD hpre ⟨rfl, hx, k0, k1, hb, hs⟩ hK
      gi_wp2
      have g := grownBy_putObj' W D (.deferred none)
      have n0 := (k0.grown g (by simp; omega)).cell 0
      have n1 := (k1.grown g (by simp; omega)).cell 0
      simp only [List.getElem?_toArray, List.getElem?_cons_zero] at n0 n1
      have hres : (r1, r2) = ((0 : Int), ([] : List Int)) := by
        rw [← HRES.out, measL, if_pos (by simp only [List.any_eq_true, decide_eq_true_eq]; obtain ⟨x, hx1, hx2⟩ := hx; exact ⟨x, hpre.subset hx1, hx2⟩)]
      obtain ⟨rfl, rfl⟩ := Prod.mk.inj hres
      refine ⟨by simp, .inl ⟨_, _, rfl, run_takeDeferred hK, ?_⟩⟩
      refine ⟨.tuple #[.int .i64 0, .slice none 0 0], ?_, _, rfl, Kd.R_nil _ _ _ _ _, hb.trans ((Below.refl _ _).grown g hb.size (fun k e => by cases e; omega))⟩
      simp [results, Try.f43, go_sem, n0, n1]
  · rw [if_neg hbig] at h
    cases h
end Go.Proofs.Ytoioineibfldcaa.K
