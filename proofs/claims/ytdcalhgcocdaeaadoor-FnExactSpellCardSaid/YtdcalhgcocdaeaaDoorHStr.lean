/-
  impl.strText (function 11): the text in quotation marks, escaped. Conditions: the table of powers of ten is laid (the row's own); at most 2^40 bytes.
-/
import Derived.Test.YtdcalhgcocdaeaaDoorHEnv
import Derived.Test.YtdcalhgcocdaeaaDoorHBuild
import Derived.Test.YtdcalhgcocdaeaaDoorWWords
import Derived.Lib.ItoaLen
import Derived.Lib.ItoaMem
import Derived.Lib.AppendIntMem
import Derived.Shelf.Unicode.PredsPay
import Derived.LoopN
import Derived.WalkKit
set_option linter.unusedVariables false
namespace Go.Proofs.YtdcalhgcocdaeaaDoor.K
open Go Go.Shelf Go.RowKit Go.Proofs.YtdcalhgcocdaeaaDoorW.PrintWords
set_option maxRecDepth 100000
set_option maxHeartbeats 2000000

theorem builder_below {B b : Nat} {bs : List Value} {w w' : World} (h : Lib.IsBuilderF 36 5 B b bs w) (hb : Below w.heap.size w w') : Lib.IsBuilderF 36 5 B b bs w' := by
  have key : ∀ p, Lib.BuilderAtF 36 5 B b p bs w → Lib.BuilderAtF 36 5 B b p bs w' := by
    intro p h
    have hlt := h.lt
    obtain ⟨hB, v, hbk, hown, hne⟩ := h
    exact ⟨hB, v, (hb.block b hlt).trans hbk, hown.kept (row := none) ⟨hb.os, hb.tape, hb.output, hb.size, fun k hk _ => hb.block k hk⟩ (by cases hv : v.ownBlock <;> simp), hne⟩
  exact h.elim (fun x => .inl (key _ x)) (fun x => .inr (key _ x))
abbrev Bd (B b : Nat) (l : List UInt8) (w : World) : Prop := Lib.IsBuilderF 36 5 B b (Lib.byteCells l) w
theorem WB (B b : Nat) (l : List UInt8) (c : UInt8) (w : World) (h : Bd B b l w) (hl : l.length ≤ 100000000000000) (hB : B ≤ w.heap.size) :
    Calls Tryd.prog 15 #[.pointer (some ⟨b, 0, none⟩), .int .u8 c.toNat] w fun e w' => e = .returned .nilIface ∧ Bd B b (l ++ [c]) w' ∧ Below B w w' := by
  refine (WriteByte_k B b _ c.toNat w h (by rw [Lib.byteCells_length]; omega) hB).mono ?_
  rintro e w' ⟨h1, h2, h3, _⟩
  refine ⟨h1, .inr ?_, h3⟩
  rw [Lib.byteCells_append]
  exact h2
theorem WS (B b : Nat) (l : List UInt8) (s : ByteArray) (w : World) (h : Bd B b l w) (hl : l.length + s.size ≤ 100000000000000) (hB : B ≤ w.heap.size) :
    Calls Tryd.prog 16 #[.pointer (some ⟨b, 0, none⟩), .string s] w fun e w' => e = .returned (.tuple #[.int .i64 s.size, .nilIface]) ∧ Bd B b (l ++ s.data.toList) w' ∧ Below B w w' := by
  refine (WriteString_k B b _ s w h (by rw [Lib.byteCells_length]; omega) hB).mono ?_
  rintro e w' ⟨h1, h2, h3, _⟩
  refine ⟨h1, .inr ?_, h3⟩
  rw [Lib.byteCells_append]
  exact h2

theorem WBz (B b : Nat) (l : List UInt8) (c : UInt8) (z : Int) (hz : z = (c.toNat : Int)) (w : World) (h : Bd B b l w) (hl : l.length ≤ 100000000000000) (hB : B ≤ w.heap.size) :
    Calls Tryd.prog 15 #[.pointer (some ⟨b, 0, none⟩), .int .u8 z] w fun e w' => e = .returned .nilIface ∧ Bd B b (l ++ [c]) w' ∧ Below B w w' := by
  subst hz
  exact WB B b l c w h hl hB
theorem len_ok (l : List UInt8) (n k : Nat) (h : l.length ≤ 4 * n) (hn : n ≤ 1099511627776) (hk : k ≤ 100) : (34 :: l).length + k ≤ 100000000000000 := by rw [List.length_cons]; omega
theorem z34 : (34 : Int) = ((34 : UInt8).toNat : Int) := rfl
theorem z92 : (92 : Int) = ((92 : UInt8).toNat : Int) := rfl
theorem itoa_byte (c : UInt8) (b z : Int) (hb : b = (c.toNat : Int)) (hz : z = wrap64 b) (w : World) (henv : Env w) :
    Calls Tryd.prog 17 #[.int .i64 z] w fun e w' => ∃ D : ByteArray, e = .returned (.string D) ∧ D = ⟨(Lib.decDigits c.toNat).toArray⟩ ∧ Below w.heap.size w w' := by
  have hc := c.toNat_lt
  obtain rfl : z = ((c.toNat : Nat) : Int) := by rw [hz, hb]; unfold wrap64; omega
  refine (Tryd.strconv_Itoa ((c.toNat : Nat) : Int) (by omega) (by omega) w henv.tab).mono ?_
  rintro e w' ⟨rfl, k, os, rfl⟩
  refine ⟨_, rfl, ?_, Lib.below_grow _ _ (Nat.le_refl _) _ _⟩
  unfold Lib.itoa
  rw [if_neg (by omega)]
  simp
theorem rep_byte (c : UInt8) (D : ByteArray) (hD : D = ⟨(Lib.decDigits c.toNat).toArray⟩) (z : Int) (hz : z = wrap64 (3 - (D.size : Int))) (w : World) :
    Calls Tryd.prog 18 #[.string ⟨#[48]⟩, .int .i64 z] w fun e w' => ∃ R : ByteArray, e = .returned (.string R) ∧ R = ⟨(Lib.repeatL [48] (3 - (Lib.decDigits c.toNat).length)).toArray⟩ ∧ Below w.heap.size w w' := by
  have hl := dec_length_byte c
  have hs : D.size = (Lib.decDigits c.toNat).length := by rw [hD]; simp [ByteArray.size]
  obtain rfl : z = ((3 - (Lib.decDigits c.toNat).length : Nat) : Int) := by rw [hz, hs]; unfold wrap64; omega
  refine (Tryd.strings_Repeat ⟨#[48]⟩ (3 - (Lib.decDigits c.toNat).length) w (by omega) (by have h1 : (⟨#[48]⟩ : ByteArray).size = 1 := rfl; rw [h1]; omega)).mono ?_
  rintro e w' ⟨rfl, hb⟩
  exact ⟨_, rfl, rfl, hb⟩
theorem oct_text (c : UInt8) (D R : ByteArray) (hD : D = ⟨(Lib.decDigits c.toNat).toArray⟩) (hR : R = ⟨(Lib.repeatL [48] (3 - (Lib.decDigits c.toNat).length)).toArray⟩) :
    ((⟨#[92]⟩ : ByteArray) ++ R ++ D).data.toList = 92 :: (Lib.repeatL [48] (3 - (Lib.decDigits c.toNat).length) ++ Lib.decDigits c.toNat) ∧ ((⟨#[92]⟩ : ByteArray) ++ R ++ D).size ≤ 4 ∧ (9223372036854775807 < 1 + R.size) = False ∧ (9223372036854775807 < 1 + R.size + D.size) = False := by
  have hl := dec_length_byte c
  have h1 : D.size = (Lib.decDigits c.toNat).length := by rw [hD]; simp [ByteArray.size]
  have h2 : R.size = 3 - (Lib.decDigits c.toNat).length := by rw [hR]; simp [ByteArray.size, Lib.repeatL_length]
  have h3 : (⟨#[92]⟩ : ByteArray).size = 1 := rfl
  refine ⟨?_, ?_, eq_false (by omega), eq_false (by omega)⟩
  · rw [hD, hR, ByteArray.data_append, ByteArray.data_append]
    simp
  · rw [ByteArray.size_append, ByteArray.size_append, h1, h2, h3]
    omega
theorem byte_here (s : ByteArray) (x : Int) (h0 : 0 ≤ x) (h1 : x < (s.size : Int)) : ∃ c : UInt8, (s.data.toList.take (x + 1).toNat).flatMap enc = (s.data.toList.take x.toNat).flatMap enc ++ enc c ∧ bt s x = (c.toNat : Int) ∧ ((s.data.toList.take x.toNat).flatMap enc).length ≤ 4 * s.size := by
  have hl : s.data.toList.length = s.size := Array.length_toList
  have hx : x.toNat < s.data.toList.length := by omega
  refine ⟨s.data.toList[x.toNat], ?_, ?_, ?_⟩
  · rw [show (x + 1).toNat = x.toNat + 1 by omega, flat_take _ _ hx]
  · unfold bt
    rw [dif_pos (by omega)]
    rfl
  · have := flat_length (s.data.toList.take x.toNat)
    have h2 := List.length_take_le x.toNat s.data.toList
    have h3 : (s.data.toList.take x.toNat).length ≤ s.data.toList.length := List.length_take_le' _ _
    omega
theorem strText_calls (s : ByteArray) (hs : s.size ≤ 1099511627776) (w : World) (henv : Env w) :
    Calls Tryd.prog 11 #[.string s] w fun e w' => e = .returned (.string ⟨(strL s.data.toList).toArray⟩) ∧ Below w.heap.size w w' := by
  have HE : Aside0 (∀ w', Below w.heap.size w w' → Env w') := Aside0.mk (fun w' h => henv.below h)
  clear henv
  go_enter Tryd.func11, Tryd.ntmps11
  go_wp2_with (go_at_call 15; refine (WB w.heap.size w.heap.size [] 34 _ (Lib.IsBuilderF.of (Lib.fresh_isBuilder 36 5 w)) (by simp) (by simp)).mono ?_; rintro e w1 ⟨rfl, hd, hb⟩; have HD := Aside0.mk hd; have HB := Aside0.mk (((Below.refl w.heap.size w).alloc (Nat.le_refl _) (.cells #[.pointer none, .slice none 0 0] 36)).trans hb); clear hd hb)
  go_loopw [4, 5, 6, 10] (fun v4 v5 v6 v10 wr => ∃ (x : Int), v10 = .int .i64 x ∧ Aside0 (0 ≤ x) ∧ Aside0 (x ≤ s.size) ∧ Aside0 (Bd w.heap.size w.heap.size (34 :: (s.data.toList.take x.toNat).flatMap enc) wr) ∧ Aside0 (Below w.heap.size w wr)) (fun _ _ _ i _ => s.size - (intOf i).toNat)
  case atStart => exact ⟨0, rfl, ⟨by omega⟩, ⟨by omega⟩, HD, HB⟩
  case round =>
    obtain ⟨x, rfl, H0, H1, HD, HB⟩ := hrel
    by_cases hlt : x < (s.size : Int)
    · have h0 := H0.out
      obtain ⟨c, hc, hz, hn⟩ := byte_here s x h0 hlt
      have HC := Aside0.mk hc
      have HZ := Aside0.mk hz
      have HN := Aside0.mk hn
      clear hc hz hn
      have HW := Aside0.mk (show wrap64 (x + 1) = x + 1 by unfold wrap64; omega)
      have HW := Aside0.mk (show wrap64 (x + 1) = x + 1 by unfold wrap64; omega)
      have HW := Aside0.mk (show wrap64 (x + 1) = x + 1 by unfold wrap64; omega)
      have HW := Aside0.mk (show wrap64 (x + 1) = x + 1 by unfold wrap64; omega)
      have HW := Aside0.mk (show wrap64 (x + 1) = x + 1 by unfold wrap64; omega)
      have HN1 := Aside0.mk (show (34 :: (s.data.toList.take x.toNat).flatMap enc).length ≤ 100000000000000 from len_ok _ _ 0 HN.out hs (by decide))
      have HW := Aside0.mk (show wrap64 (x + 1) = x + 1 by unfold wrap64; omega)
      have HN1 := Aside0.mk (show (34 :: (s.data.toList.take x.toNat).flatMap enc).length ≤ 100000000000000 from len_ok _ _ 0 HN.out hs (by decide))
      have p6 : (0 ≤ x) = True := eq_true h0
      have q6 : (x < (s.size : Int)) = True := eq_true hlt
      have q7 : decide (x < (s.size : Int)) = true := decide_eq_true hlt
      have hx6 := bt_at s x
      clear h0 hlt
      have hcz : ∀ d : UInt8, bt s x = (d.toNat : Int) ↔ c = d := fun d => by rw [HZ.out, Int.ofNat_inj]; exact UInt8.toNat_inj
      by_cases h10 : bt s x = 10
      · have b10 : (bt s x == 10) = true := beq_iff_eq.mpr h10
        have e10 : c = 10 := (hcz 10).1 h10
        clear hcz
        have HX := Aside0.mk (show enc c = [92, 110] by unfold enc; rw [if_pos e10])
        go_wp2_with (go_at_call 16; refine (WS w.heap.size w.heap.size _ ⟨#[92, 110]⟩ _ HD.out (len_ok _ _ 2 HN.out hs (by decide)) HB.out.size).mono ?_; rintro e w2 ⟨rfl, hd, hb⟩; have n0_ := Aside0.mk hd; have n1_ := Aside0.mk (HB.out.trans hb); clear hd hb HD HB; have HD := n0_; have HB := n1_; clear n0_ n1_)
        go_wp2
        go_roundw
        case rel => exact ⟨x + 1, by rw [HW.out], ⟨by have := H0.out; omega⟩, ⟨by have := of_eq_true q6; omega⟩, ⟨by rw [HC.out, HX.out]; simpa using HD.out⟩, HB⟩
        case measure => have h0_ := H0.out; have h1_ := of_eq_true q6; have h2_ := HW.out; simp [intOf]; rw [h2_]; omega
      · have b10 : (bt s x == 10) = false := beq_eq_false_iff_ne.mpr h10
        have e10 : ¬ c = 10 := fun h => h10 ((hcz 10).2 h)
        by_cases h9 : bt s x = 9
        · have b9 : (bt s x == 9) = true := beq_iff_eq.mpr h9
          have e9 : c = 9 := (hcz 9).1 h9
          clear hcz
          have HX := Aside0.mk (show enc c = [92, 116] by unfold enc; rw [if_neg e10, if_pos e9])
          go_wp2_with (go_at_call 16; refine (WS w.heap.size w.heap.size _ ⟨#[92, 116]⟩ _ HD.out (len_ok _ _ 2 HN.out hs (by decide)) HB.out.size).mono ?_; rintro e w2 ⟨rfl, hd, hb⟩; have n0_ := Aside0.mk hd; have n1_ := Aside0.mk (HB.out.trans hb); clear hd hb HD HB; have HD := n0_; have HB := n1_; clear n0_ n1_)
          go_wp2
          go_roundw
          case rel => exact ⟨x + 1, by rw [HW.out], ⟨by have := H0.out; omega⟩, ⟨by have := of_eq_true q6; omega⟩, ⟨by rw [HC.out, HX.out]; simpa using HD.out⟩, HB⟩
          case measure => have h0_ := H0.out; have h1_ := of_eq_true q6; have h2_ := HW.out; simp [intOf]; rw [h2_]; omega
        · have b9 : (bt s x == 9) = false := beq_eq_false_iff_ne.mpr h9
          have e9 : ¬ c = 9 := fun h => h9 ((hcz 9).2 h)
          by_cases h2 : c = 92 ∨ c = 34
          · have HX := Aside0.mk (show enc c = [92] ++ [c] by unfold enc; rw [if_neg e10, if_neg e9, if_pos h2]; rfl)
            have h92 : bt s x = 92 ∨ bt s x = 34 := h2.elim (fun h => .inl ((hcz 92).2 h)) (fun h => .inr ((hcz 34).2 h))
            clear hcz h2
            by_cases h92' : bt s x = 92
            · have b92 : (bt s x == 92) = true := beq_iff_eq.mpr h92'
              have HZ2 := Aside0.mk (show (92 : Int) = (c.toNat : Int) by rw [← h92']; exact HZ.out)
              clear h92
              have HN2 := Aside0.mk (show ((34 :: (s.data.toList.take x.toNat).flatMap enc) ++ [92]).length ≤ 100000000000000 by have := len_ok _ _ 1 HN.out hs (by decide); rw [List.length_append]; exact this)
              go_wp2_with (first | (go_at_call 15; (with_reducible refine (WBz w.heap.size w.heap.size _ 92 92 z92 _ HD.out HN1.out HB.out.size).mono ?_); rintro e w2 ⟨rfl, hd, hb⟩; have n0_ := Aside0.mk hd; have n1_ := Aside0.mk (HB.out.trans hb); clear hd hb HD HB; have HD := n0_; have HB := n1_; clear n0_ n1_) | (go_at_call 15; (with_reducible refine (WBz w.heap.size w.heap.size _ c _ (by first | exact HZ.out | exact HZ2.out) _ HD.out HN2.out HB.out.size).mono ?_); rintro e w2 ⟨rfl, hd, hb⟩; have n0_ := Aside0.mk hd; have n1_ := Aside0.mk (HB.out.trans hb); clear hd hb HD HB; have HD := n0_; have HB := n1_; clear n0_ n1_))
              go_wp2
              go_roundw
              case rel => exact ⟨x + 1, by rw [HW.out], ⟨by have := H0.out; omega⟩, ⟨by have := of_eq_true q6; omega⟩, ⟨by rw [HC.out, HX.out]; simpa using HD.out⟩, HB⟩
              case measure => have h0_ := H0.out; have h1_ := of_eq_true q6; have h2_ := HW.out; simp [intOf]; rw [h2_]; omega
            · have b92 : (bt s x == 92) = false := beq_eq_false_iff_ne.mpr h92'
              have b34 : (bt s x == 34) = true := beq_iff_eq.mpr (h92.resolve_left h92')
              have HZ2 := Aside0.mk (show (34 : Int) = (c.toNat : Int) by rw [← h92.resolve_left h92']; exact HZ.out)
              clear h92
              have HN2 := Aside0.mk (show ((34 :: (s.data.toList.take x.toNat).flatMap enc) ++ [92]).length ≤ 100000000000000 by have := len_ok _ _ 1 HN.out hs (by decide); rw [List.length_append]; exact this)
              go_wp2_with (first | (go_at_call 15; (with_reducible refine (WBz w.heap.size w.heap.size _ 92 92 z92 _ HD.out HN1.out HB.out.size).mono ?_); rintro e w2 ⟨rfl, hd, hb⟩; have n0_ := Aside0.mk hd; have n1_ := Aside0.mk (HB.out.trans hb); clear hd hb HD HB; have HD := n0_; have HB := n1_; clear n0_ n1_) | (go_at_call 15; (with_reducible refine (WBz w.heap.size w.heap.size _ c _ (by first | exact HZ.out | exact HZ2.out) _ HD.out HN2.out HB.out.size).mono ?_); rintro e w2 ⟨rfl, hd, hb⟩; have n0_ := Aside0.mk hd; have n1_ := Aside0.mk (HB.out.trans hb); clear hd hb HD HB; have HD := n0_; have HB := n1_; clear n0_ n1_))
              go_wp2
              go_roundw
              case rel => exact ⟨x + 1, by rw [HW.out], ⟨by have := H0.out; omega⟩, ⟨by have := of_eq_true q6; omega⟩, ⟨by rw [HC.out, HX.out]; simpa using HD.out⟩, HB⟩
              case measure => have h0_ := H0.out; have h1_ := of_eq_true q6; have h2_ := HW.out; simp [intOf]; rw [h2_]; omega
          · have h92 : ¬ bt s x = 92 := fun h => h2 (.inl ((hcz 92).1 h))
            have h34 : ¬ bt s x = 34 := fun h => h2 (.inr ((hcz 34).1 h))
            have b92 : (bt s x == 92) = false := beq_eq_false_iff_ne.mpr h92
            have b34 : (bt s x == 34) = false := beq_eq_false_iff_ne.mpr h34
            clear hcz
            by_cases hr : c.toNat < 32 ∨ 126 < c.toNat
            · by_cases h32 : bt s x < 32
              · have b32 : decide (bt s x < 32) = true := decide_eq_true h32
                have HX := Aside0.mk (show enc c = 92 :: (Lib.repeatL [48] (3 - (Lib.decDigits c.toNat).length) ++ Lib.decDigits c.toNat) by unfold enc; rw [if_neg e10, if_neg e9, if_neg h2, if_pos hr])
                clear h2 hr
                go_wp2_with (first | (go_at_call 17; (with_reducible refine (itoa_byte c (bt s x) _ HZ.out (by first | rfl | go_num) _ (HE.out _ HB.out)).mono ?_); rintro e w2 ⟨D, rfl, hD, hb⟩; have n0_ := Aside0.mk (builder_below HD.out hb); have n1_ := Aside0.mk (HB.out.trans (hb.mono HB.out.size)); have HDD := Aside0.mk hD; clear hb HD HB hD; have HD := n0_; have HB := n1_; clear n0_ n1_) | (go_at_call 18; (with_reducible refine (rep_byte c D HDD.out _ (by first | rfl | go_num) _).mono ?_); rintro e w2 ⟨R, rfl, hR, hb⟩; have n0_ := Aside0.mk (builder_below HD.out hb); have n1_ := Aside0.mk (HB.out.trans (hb.mono HB.out.size)); clear hb HD HB; have HD := n0_; have HB := n1_; clear n0_ n1_; obtain ⟨ot, os_, hR1, hR2⟩ := oct_text c D R HDD.out hR; have HOT := Aside0.mk ot; have HOS := Aside0.mk os_; clear ot os_ hR))
                have HLS := Aside0.mk (show (34 :: (s.data.toList.take x.toNat).flatMap enc).length + ((⟨#[92]⟩ : ByteArray) ++ R ++ D).size ≤ 100000000000000 by have h_ := len_ok _ _ 4 HN.out hs (by decide); have h2_ := HOS.out; omega)
                refine (WS w.heap.size w.heap.size _ _ _ HD.out HLS.out HB.out.size).mono ?_
                rintro e w5 ⟨rfl, hd, hb⟩
                rw [HOT.out, ← HX.out] at hd
                have n0_ := Aside0.mk hd
                have n1_ := Aside0.mk (HB.out.trans hb)
                clear hd hb HD HB
                have HD := n0_
                have HB := n1_
                clear n0_ n1_
                go_wp2
                go_roundw
                case rel => exact ⟨x + 1, by rw [HW.out], ⟨by have := H0.out; omega⟩, ⟨by have := of_eq_true q6; omega⟩, ⟨by rw [HC.out]; simpa using HD.out⟩, HB⟩
                case measure => have h0_ := H0.out; have h1_ := of_eq_true q6; have h2_ := HW.out; simp [intOf]; rw [h2_]; omega
              · have b32 : decide (bt s x < 32) = false := decide_eq_false h32
                have b126 : decide (126 < bt s x) = true := decide_eq_true (by have := HZ.out; omega)
                have HX := Aside0.mk (show enc c = 92 :: (Lib.repeatL [48] (3 - (Lib.decDigits c.toNat).length) ++ Lib.decDigits c.toNat) by unfold enc; rw [if_neg e10, if_neg e9, if_neg h2, if_pos hr])
                clear h2 hr
                go_wp2_with (first | (go_at_call 17; (with_reducible refine (itoa_byte c (bt s x) _ HZ.out (by first | rfl | go_num) _ (HE.out _ HB.out)).mono ?_); rintro e w2 ⟨D, rfl, hD, hb⟩; have n0_ := Aside0.mk (builder_below HD.out hb); have n1_ := Aside0.mk (HB.out.trans (hb.mono HB.out.size)); have HDD := Aside0.mk hD; clear hb HD HB hD; have HD := n0_; have HB := n1_; clear n0_ n1_) | (go_at_call 18; (with_reducible refine (rep_byte c D HDD.out _ (by first | rfl | go_num) _).mono ?_); rintro e w2 ⟨R, rfl, hR, hb⟩; have n0_ := Aside0.mk (builder_below HD.out hb); have n1_ := Aside0.mk (HB.out.trans (hb.mono HB.out.size)); clear hb HD HB; have HD := n0_; have HB := n1_; clear n0_ n1_; obtain ⟨ot, os_, hR1, hR2⟩ := oct_text c D R HDD.out hR; have HOT := Aside0.mk ot; have HOS := Aside0.mk os_; clear ot os_ hR))
                have HLS := Aside0.mk (show (34 :: (s.data.toList.take x.toNat).flatMap enc).length + ((⟨#[92]⟩ : ByteArray) ++ R ++ D).size ≤ 100000000000000 by have h_ := len_ok _ _ 4 HN.out hs (by decide); have h2_ := HOS.out; omega)
                refine (WS w.heap.size w.heap.size _ _ _ HD.out HLS.out HB.out.size).mono ?_
                rintro e w5 ⟨rfl, hd, hb⟩
                rw [HOT.out, ← HX.out] at hd
                have n0_ := Aside0.mk hd
                have n1_ := Aside0.mk (HB.out.trans hb)
                clear hd hb HD HB
                have HD := n0_
                have HB := n1_
                clear n0_ n1_
                go_wp2
                go_roundw
                case rel => exact ⟨x + 1, by rw [HW.out], ⟨by have := H0.out; omega⟩, ⟨by have := of_eq_true q6; omega⟩, ⟨by rw [HC.out]; simpa using HD.out⟩, HB⟩
                case measure => have h0_ := H0.out; have h1_ := of_eq_true q6; have h2_ := HW.out; simp [intOf]; rw [h2_]; omega
            · have b32 : decide (bt s x < 32) = false := decide_eq_false (by have := HZ.out; omega)
              have b126 : decide (126 < bt s x) = false := decide_eq_false (by have := HZ.out; omega)
              have HX := Aside0.mk (show enc c = [c] by unfold enc; rw [if_neg e10, if_neg e9, if_neg h2, if_neg hr])
              clear h2 hr
              go_wp2_with (go_at_call 15; refine (WBz w.heap.size w.heap.size _ c (bt s x) HZ.out _ HD.out HN1.out HB.out.size).mono ?_; rintro e w2 ⟨rfl, hd, hb⟩; have n0_ := Aside0.mk hd; have n1_ := Aside0.mk (HB.out.trans hb); clear hd hb HD HB; have HD := n0_; have HB := n1_; clear n0_ n1_)
              go_wp2
              go_roundw
              case rel => exact ⟨x + 1, by rw [HW.out], ⟨by have := H0.out; omega⟩, ⟨by have := of_eq_true q6; omega⟩, ⟨by rw [HC.out, HX.out]; simpa using HD.out⟩, HB⟩
              case measure => have h0_ := H0.out; have h1_ := of_eq_true q6; have h2_ := HW.out; simp [intOf]; rw [h2_]; omega
    · have h1 := H1.out
      obtain rfl : x = (s.size : Int) := by omega
      have q7 : decide ((s.size : Int) < (s.size : Int)) = false := decide_eq_false (by omega)
      have hall : (s.data.toList.take ((s.size : Int)).toNat).flatMap enc = s.data.toList.flatMap enc := by rw [Int.toNat_natCast, List.take_of_length_le (by rw [show s.data.toList.length = s.size from Array.length_toList]; omega)]
      have HALL := Aside0.mk hall
      have HN1 := Aside0.mk (show (34 :: s.data.toList.flatMap enc).length ≤ 100000000000000 by have h := flat_length s.data.toList; rw [show s.data.toList.length = s.size from Array.length_toList] at h; have := len_ok _ s.size 0 h hs (by decide); exact this)
      rw [hall] at HD
      clear hall hlt h1
      go_wp2_with (first | (go_at_call 15; (with_reducible refine (WBz w.heap.size w.heap.size _ 34 34 z34 _ HD.out HN1.out HB.out.size).mono ?_); rintro e w2 ⟨rfl, hd, hb⟩; have n0_ := Aside0.mk hd; have n1_ := Aside0.mk (HB.out.trans hb); clear hd hb HD HB; have HD := n0_; have HB := n1_; clear n0_ n1_) | (go_at_call 19; (with_reducible refine (Tryd.Builder_String_any_k w.heap.size w.heap.size _ _ HD.out HB.out.size).mono ?_); rintro e w2 ⟨rfl, hd, hb, _⟩; have n1_ := Aside0.mk (HB.out.trans hb); clear hd hb HD HB; have HB := n1_; clear n1_))
      go_ret
      refine ⟨?_, HB.out⟩
      show _ = Ending.returned (Value.string ⟨(strL s.data.toList).toArray⟩)
      unfold strL
      rfl
def impl_strText.f (s : ByteArray) : Option ByteArray := if s.size ≤ 1099511627776 then some ⟨(strL s.data.toList).toArray⟩ else none
theorem impl_strText.calls (s : ByteArray) (r : ByteArray) (w : World) (henv : Env w) (h : impl_strText.f s = some r) :
    Calls Tryd.prog 11 #[.string s] w fun e w' => e = .returned (.string r) ∧ Below w.heap.size w w' := by
  unfold impl_strText.f at h
  by_cases hn : s.size ≤ 1099511627776
  · rw [if_pos hn] at h
    obtain rfl := Option.some.inj h
    exact strText_calls s hn w henv
  · rw [if_neg hn] at h
    cases h
end Go.Proofs.YtdcalhgcocdaeaaDoor.K
