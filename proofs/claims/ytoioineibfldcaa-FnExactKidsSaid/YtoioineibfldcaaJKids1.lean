/- Joined by wip/tools/merge.py from: Kx0, HTurn, HBase, HStill, HKidsOf, HCopied, HRows, HHeights, HMeasure, HSizes, LTree, Kx2, Kx3, Kx6, Kx7, Kx9. -/
import Derived.Test.YtoioineibfldcaaProg
import Derived.Below
import Derived.Deep.Draws
import Derived.Deep.AppendLies
import Derived.Maps.AppendAt
import Derived.OwnWalk
import Derived.Laws.BytesArg
import Derived.Laws.MakeOwn
import Derived.Laws.OwnMore
import Derived.Deep.OwnRows
import Derived.Tactics
import Derived.Lib.ConvBytes
import Derived.Laws.Slices
import Derived.WalkKit
import Derived.KernelRfl
import Derived.RowKit3
import Derived.Deep.LoopGhost
import Derived.Deep.QuietTactic
import Derived.BigQuiet
import Derived.WideLaws
import Derived.Deep.DeepCutAuto
import Derived.Deep.CutBlock
import Derived.Deep.RegionHeld3
import Derived.Laws.Rows
import Derived.Lib.AppendStr
import Derived.ArgAppend
import Derived.Laws.IdiomCopy
import Derived.OrdersHeld
import Derived.Laws.BitsLemmas
import Derived.RowKit
import Derived.Test.YtoioineibfldcaaWWords
import Derived.Test.YtoioineibfldcaaWLast
import Derived.Test.YtoioineibfldcaaWTab
import Derived.Test.YtoioineibfldcaaWFour
import Derived.Test.YtoioineibfldcaaWQPut
import Derived.Test.YtoioineibfldcaaWApart
import Derived.Test.YtoioineibfldcaaWArr
import Derived.Test.YtoioineibfldcaaWZeros
import Derived.Test.YtoioineibfldcaaWFoot
import Derived.Test.YtoioineibfldcaaWKept
import Derived.Test.YtoioineibfldcaaWShare
import Derived.Test.YtoioineibfldcaaWN
import Derived.Test.YtoioineibfldcaaWFootNe
import Derived.Test.YtoioineibfldcaaWAt
import Derived.Test.YtoioineibfldcaaWEqStruct
import Derived.Test.YtoioineibfldcaaWRepsOne
import Derived.Test.YtoioineibfldcaaWInv
import Derived.Test.YtoioineibfldcaaWInvWords
import Derived.Test.YtoioineibfldcaaWGuard
import Derived.Test.YtoioineibfldcaaWNEv
import Derived.Test.YtoioineibfldcaaWMore
import Derived.RangeFuncNested
import Derived.RangeFuncBound
import Derived.RangeFuncCalls
import Derived.RangeFuncLeaves
import Derived.RangeFuncFrom
import Derived.StillTailTactics
import Derived.OrdersIn
import Derived.TacticsIn
import Derived.CallsIn
import Derived.ControlIn
import Derived.OwnWalkIn
import Derived.TacticsInMore
import Derived.LoopNIn
import Derived.LoopIn
import Derived.BigRegion
import Derived.Deep.RegionLaw
import Derived.RangeFuncBox
import Derived.Shelf.Abstract
import Derived.Shelf.RegionOpen
section
-- Printed by wip/tools/stubprint.py, a driver of mine over the kit's print.py: some callees are proved by hand.
namespace Go.Proofs.Ytoioineibfldcaa.K
open Go.RowKit Go.Proofs.YtoioineibfldcaaW.PrintWords Go.Proofs.YtoioineibfldcaaW.PrintLast Go.Proofs.YtoioineibfldcaaW.PrintMore
attribute [local go_sem] max2_int min2_int max_two min_two max_three min_three max_four min_four   -- for this text's walks alone
set_option linter.unusedVariables false
set_option linter.unusedSimpArgs false



def errW : Option Int → Value
  | none => .nilIface
  | some c => .iface 0 (.int .i64 c)
theorem errW_none : errW none = .nilIface := rfl
theorem errW_some (c : Int) : errW (some c) = .iface 0 (.int .i64 c) := rfl

theorem info3 : (Try.prog.info? 3).map (fun i => (i.zero, i.size, i.bytes)) = some (some (.int .i64 0), 1, 8) := by kernel_rfl
theorem info5 : (Try.prog.info? 5).map (fun i => (i.zero, i.size, i.bytes)) = some (some (.int .u8 0), 1, 1) := by kernel_rfl
theorem info26 : (Try.prog.info? 26).map (fun i => (i.zero, i.size, i.bytes)) = some (some (.slice none 0 0), 1, 24) := by kernel_rfl
theorem info41 : (Try.prog.info? 41).map (fun i => (i.zero, i.size, i.bytes)) = some (some (.agg #[(.int .i64 0), (.int .i64 0), (.string ⟨#[]⟩), (.int .i64 0), (.int .i64 0)]), 5, 48) := by kernel_rfl
-- the values' own types
/-! #### struct type 36 -/
structure S36 where
  f0 : Int
  f1 : Int
  f2 : ByteArray
  f3 : Int
  f4 : Int
def z36 : S36 := ⟨(0 : Int), (0 : Int), (⟨#[]⟩ : ByteArray), (0 : Int), (0 : Int)⟩
def k36 : Kd S36 := Kd.iso (Kd.pair (Kd.int .i64) (Kd.pair (Kd.int .i64) (Kd.pair Kd.string (Kd.pair (Kd.int .i64) (Kd.int .i64))))) (fun x : S36 => (x.f0, x.f1, x.f2, x.f3, x.f4))
theorem k36_open {w : World} {x : S36} {cs : List Value} (h : k36.K w x cs) : cs = [.int .i64 x.f0, .int .i64 x.f1, .string x.f2, .int .i64 x.f3, .int .i64 x.f4] := by
  obtain ⟨_, _, rfl, rfl, ⟨_, _, rfl, rfl, ⟨_, _, rfl, rfl, ⟨_, _, rfl, rfl, rfl⟩⟩⟩⟩ := h
  exact rfl
theorem k36_openM {w : World} {base : Nat} {ok : Nat → Prop} {x : S36} {cs : List Value} (h : k36.M w base ok x cs) : cs = [.int .i64 x.f0, .int .i64 x.f1, .string x.f2, .int .i64 x.f3, .int .i64 x.f4] := by
  obtain ⟨_, _, rfl, rfl, ⟨_, _, rfl, rfl, ⟨_, _, rfl, rfl, ⟨_, _, rfl, rfl, rfl⟩⟩⟩⟩ := h
  exact rfl
theorem k36_mk (w : World) (x : S36)  : k36.K w x [.int .i64 x.f0, .int .i64 x.f1, .string x.f2, .int .i64 x.f3, .int .i64 x.f4] := ⟨[.int .i64 x.f0], [.int .i64 x.f1, .string x.f2, .int .i64 x.f3, .int .i64 x.f4], rfl, rfl, ⟨[.int .i64 x.f1], [.string x.f2, .int .i64 x.f3, .int .i64 x.f4], rfl, rfl, ⟨[.string x.f2], [.int .i64 x.f3, .int .i64 x.f4], rfl, rfl, ⟨[.int .i64 x.f3], [.int .i64 x.f4], rfl, rfl, rfl⟩⟩⟩⟩
theorem k36_mkM (w : World) (base : Nat) (ok : Nat → Prop) (x : S36)  : k36.M w base ok x [.int .i64 x.f0, .int .i64 x.f1, .string x.f2, .int .i64 x.f3, .int .i64 x.f4] := ⟨[.int .i64 x.f0], [.int .i64 x.f1, .string x.f2, .int .i64 x.f3, .int .i64 x.f4], rfl, rfl, ⟨[.int .i64 x.f1], [.string x.f2, .int .i64 x.f3, .int .i64 x.f4], rfl, rfl, ⟨[.string x.f2], [.int .i64 x.f3, .int .i64 x.f4], rfl, rfl, ⟨[.int .i64 x.f3], [.int .i64 x.f4], rfl, rfl, rfl⟩⟩⟩⟩
def rd_T36 (xs : List S36) (i : Int) : S36 := xs.getD i.toNat z36
theorem at_T36 {w : World} {A : Option Addr} {n : Nat} {xs : List S36} (h : Kd.C k36 w A n xs) (i : Int) (h0 : 0 ≤ i) (h1 : i < n) : ∃ ad , A = some ad ∧ w.cell? (ad.add (i.toNat * 5)) = some (.int .i64 (rd_T36 xs i).f0) ∧ w.cell? ⟨(ad.add (i.toNat * 5)).block, (ad.add (i.toNat * 5)).off + 1, none⟩ = some (.int .i64 (rd_T36 xs i).f1) ∧ w.cell? ⟨(ad.add (i.toNat * 5)).block, (ad.add (i.toNat * 5)).off + 2, none⟩ = some (.string (rd_T36 xs i).f2) ∧ w.cell? ⟨(ad.add (i.toNat * 5)).block, (ad.add (i.toNat * 5)).off + 3, none⟩ = some (.int .i64 (rd_T36 xs i).f3) ∧ w.cell? ⟨(ad.add (i.toNat * 5)).block, (ad.add (i.toNat * 5)).off + 4, none⟩ = some (.int .i64 (rd_T36 xs i).f4) := by
  obtain ⟨ad, c, e, _, hK, hc0⟩ := Kd.C_get h z36 i h0 h1
  have hc : ∀ j u, c[j]? = some u → w.cell? (ad.add (i.toNat * 5 + j)) = some u := hc0
  obtain rfl := k36_open hK
  exact ⟨ad, e, hc 0 _ rfl, by rw [← add_field _ _ 1 (by omega)]; exact hc 1 _ rfl, by rw [← add_field _ _ 2 (by omega)]; exact hc 2 _ rfl, by rw [← add_field _ _ 3 (by omega)]; exact hc 3 _ rfl, by rw [← add_field _ _ 4 (by omega)]; exact hc 4 _ rfl⟩

/-! #### struct type 41 -/
structure S41 where
  f0 : Int
  f1 : Int
  f2 : ByteArray
  f3 : Int
  f4 : Int
def z41 : S41 := ⟨(0 : Int), (0 : Int), (⟨#[]⟩ : ByteArray), (0 : Int), (0 : Int)⟩
def k41 : Kd S41 := Kd.iso (Kd.pair (Kd.int .i64) (Kd.pair (Kd.int .i64) (Kd.pair Kd.string (Kd.pair (Kd.int .i64) (Kd.int .i64))))) (fun x : S41 => (x.f0, x.f1, x.f2, x.f3, x.f4))
theorem k41_open {w : World} {x : S41} {cs : List Value} (h : k41.K w x cs) : cs = [.int .i64 x.f0, .int .i64 x.f1, .string x.f2, .int .i64 x.f3, .int .i64 x.f4] := by
  obtain ⟨_, _, rfl, rfl, ⟨_, _, rfl, rfl, ⟨_, _, rfl, rfl, ⟨_, _, rfl, rfl, rfl⟩⟩⟩⟩ := h
  exact rfl
theorem k41_openM {w : World} {base : Nat} {ok : Nat → Prop} {x : S41} {cs : List Value} (h : k41.M w base ok x cs) : cs = [.int .i64 x.f0, .int .i64 x.f1, .string x.f2, .int .i64 x.f3, .int .i64 x.f4] := by
  obtain ⟨_, _, rfl, rfl, ⟨_, _, rfl, rfl, ⟨_, _, rfl, rfl, ⟨_, _, rfl, rfl, rfl⟩⟩⟩⟩ := h
  exact rfl
theorem k41_mk (w : World) (x : S41)  : k41.K w x [.int .i64 x.f0, .int .i64 x.f1, .string x.f2, .int .i64 x.f3, .int .i64 x.f4] := ⟨[.int .i64 x.f0], [.int .i64 x.f1, .string x.f2, .int .i64 x.f3, .int .i64 x.f4], rfl, rfl, ⟨[.int .i64 x.f1], [.string x.f2, .int .i64 x.f3, .int .i64 x.f4], rfl, rfl, ⟨[.string x.f2], [.int .i64 x.f3, .int .i64 x.f4], rfl, rfl, ⟨[.int .i64 x.f3], [.int .i64 x.f4], rfl, rfl, rfl⟩⟩⟩⟩
theorem k41_mkM (w : World) (base : Nat) (ok : Nat → Prop) (x : S41)  : k41.M w base ok x [.int .i64 x.f0, .int .i64 x.f1, .string x.f2, .int .i64 x.f3, .int .i64 x.f4] := ⟨[.int .i64 x.f0], [.int .i64 x.f1, .string x.f2, .int .i64 x.f3, .int .i64 x.f4], rfl, rfl, ⟨[.int .i64 x.f1], [.string x.f2, .int .i64 x.f3, .int .i64 x.f4], rfl, rfl, ⟨[.string x.f2], [.int .i64 x.f3, .int .i64 x.f4], rfl, rfl, ⟨[.int .i64 x.f3], [.int .i64 x.f4], rfl, rfl, rfl⟩⟩⟩⟩
def rd_T41 (xs : List S41) (i : Int) : S41 := xs.getD i.toNat z41
theorem at_T41 {w : World} {A : Option Addr} {n : Nat} {xs : List S41} (h : Kd.C k41 w A n xs) (i : Int) (h0 : 0 ≤ i) (h1 : i < n) : ∃ ad , A = some ad ∧ w.cell? (ad.add (i.toNat * 5)) = some (.int .i64 (rd_T41 xs i).f0) ∧ w.cell? ⟨(ad.add (i.toNat * 5)).block, (ad.add (i.toNat * 5)).off + 1, none⟩ = some (.int .i64 (rd_T41 xs i).f1) ∧ w.cell? ⟨(ad.add (i.toNat * 5)).block, (ad.add (i.toNat * 5)).off + 2, none⟩ = some (.string (rd_T41 xs i).f2) ∧ w.cell? ⟨(ad.add (i.toNat * 5)).block, (ad.add (i.toNat * 5)).off + 3, none⟩ = some (.int .i64 (rd_T41 xs i).f3) ∧ w.cell? ⟨(ad.add (i.toNat * 5)).block, (ad.add (i.toNat * 5)).off + 4, none⟩ = some (.int .i64 (rd_T41 xs i).f4) := by
  obtain ⟨ad, c, e, _, hK, hc0⟩ := Kd.C_get h z41 i h0 h1
  have hc : ∀ j u, c[j]? = some u → w.cell? (ad.add (i.toNat * 5 + j)) = some u := hc0
  obtain rfl := k41_open hK
  exact ⟨ad, e, hc 0 _ rfl, by rw [← add_field _ _ 1 (by omega)]; exact hc 1 _ rfl, by rw [← add_field _ _ 2 (by omega)]; exact hc 2 _ rfl, by rw [← add_field _ _ 3 (by omega)]; exact hc 3 _ rfl, by rw [← add_field _ _ 4 (by omega)]; exact hc 4 _ rfl⟩

def rd_L6 (xs : List (List S36)) (i : Int) : (List S36) := xs.getD i.toNat ([] : List S36)
theorem at_L6 {w : World} {A : Option Addr} {n : Nat} {xs : List (List S36)} (h : Kd.C (Kd.slice 36 k36) w A n xs) (i : Int) (h0 : 0 ≤ i) (h1 : i < n) : ∃ ad A0 c0, A = some ad ∧ w.cell? (ad.add i.toNat) = some (.slice A0 (rd_L6 xs i).length c0) ∧ (rd_L6 xs i).length ≤ c0 ∧ k36.C w A0 (rd_L6 xs i).length (rd_L6 xs i) := by
  obtain ⟨ad, c, e, _, hK, hc0⟩ := Kd.C_get h ([] : List S36) i h0 h1
  have hc : ∀ j u, c[j]? = some u → w.cell? (ad.add (i.toNat * 1 + j)) = some u := hc0
  obtain ⟨A0, c0, rfl, l0, g0⟩ := hK
  exact ⟨ad, A0, c0, e, by have hq := hc 0 _ rfl; rwa [Nat.mul_one, Nat.add_zero] at hq, l0, g0⟩

def rd_L7 (xs : List (List S41)) (i : Int) : (List S41) := xs.getD i.toNat ([] : List S41)
theorem at_L7 {w : World} {A : Option Addr} {n : Nat} {xs : List (List S41)} (h : Kd.C (Kd.slice 41 k41) w A n xs) (i : Int) (h0 : 0 ≤ i) (h1 : i < n) : ∃ ad A0 c0, A = some ad ∧ w.cell? (ad.add i.toNat) = some (.slice A0 (rd_L7 xs i).length c0) ∧ (rd_L7 xs i).length ≤ c0 ∧ k41.C w A0 (rd_L7 xs i).length (rd_L7 xs i) := by
  obtain ⟨ad, c, e, _, hK, hc0⟩ := Kd.C_get h ([] : List S41) i h0 h1
  have hc : ∀ j u, c[j]? = some u → w.cell? (ad.add (i.toNat * 1 + j)) = some u := hc0
  obtain ⟨A0, c0, rfl, l0, g0⟩ := hK
  exact ⟨ad, A0, c0, e, by have hq := hc 0 _ rfl; rwa [Nat.mul_one, Nat.add_zero] at hq, l0, g0⟩

end Go.Proofs.Ytoioineibfldcaa.K
end

section
/-
  A law of my own for 'for x := range f' where the iterator writes cells of its own between two rounds: which blocks either side may turn is told by what the blocks are ('Turn M B': only blocks at or beyond B of which M holds may have changed). No condition.
-/
namespace Go.Proofs.Ytoioineibfldcaa.T
open Go Go.RowKit

/-- Only blocks at or beyond B of which M holds may have changed; new blocks may lie behind. -/
structure Turn (M : Obj → Prop) (B : Nat) (w w' : World) : Prop where
  os : w'.os = w.os
  tape : w'.tape = w.tape
  output : w'.output = w.output
  size : w.heap.size ≤ w'.heap.size
  block : ∀ k, k < w.heap.size → (k < B ∨ ∀ o, w.heap[k]? = some o → ¬ M o) → w'.heap[k]? = w.heap[k]?

section
variable {M M' : Obj → Prop} {B B' : Nat} {w w' w'' : World}
theorem Turn.refl (M : Obj → Prop) (B : Nat) (w : World) : Turn M B w w := ⟨rfl, rfl, rfl, Nat.le_refl _, fun _ _ _ => rfl⟩
theorem Turn.trans (h : Turn M B w w') (k : Turn M B w' w'') : Turn M B w w'' :=
  ⟨k.os.trans h.os, k.tape.trans h.tape, k.output.trans h.output, Nat.le_trans h.size k.size, fun i hi hb => by
    have e := h.block i hi hb
    exact (k.block i (Nat.lt_of_lt_of_le hi h.size) (hb.imp id (fun hM o ho => hM o (e ▸ ho)))).trans e⟩
theorem Turn.imp (h : Turn M B w w') (hM : ∀ o, M o → M' o) : Turn M' B w w' :=
  ⟨h.os, h.tape, h.output, h.size, fun i hi hb => h.block i hi (hb.imp id (fun hn o ho hm => hn o ho (hM o hm)))⟩
theorem Turn.lower (h : Turn M B w w') (hB : B' ≤ B) : Turn M B' w w' :=
  ⟨h.os, h.tape, h.output, h.size, fun i hi hb => h.block i hi (hb.imp (fun hlt => by omega) id)⟩
theorem Turn.below (h : Turn M B w w') (hB : B ≤ w.heap.size) : Below B w w' :=
  ⟨h.os, h.tape, h.output, h.size, fun k hk => h.block k (by omega) (.inl hk)⟩
theorem Turn.of_below (h : Below w.heap.size w w') : Turn M B w w' := ⟨h.os, h.tape, h.output, h.size, fun k hk _ => h.block k hk⟩
theorem Turn.alloc (h : Turn M B w w') (o : Obj) : Turn M B w (w'.alloc o) := h.trans (Turn.of_below ((Below.refl _ _).alloc (Nat.le_refl _) o))
theorem Turn.drew (h : Turn M B w w') : Turn M B w w'.drew := h.trans ⟨rfl, rfl, rfl, Nat.le_refl _, fun _ _ _ => rfl⟩
theorem Turn.setCell (h : Turn M B w w') {p : Addr} {o : Obj} (hp : B ≤ p.block) (ho : w'.heap[p.block]? = some o) (hM : M o) (u : Value) : Turn M B w (w'.setCell p u) :=
  h.trans ⟨rfl, rfl, rfl, by simp [World.setCell], fun k hk hb => Below.heap_setCell _ _ _ _ (fun e => by
    subst e
    rcases hb with hb | hb
    · omega
    · exact hb o ho hM)⟩
theorem Turn.grown {row : Option Nat} (h : Turn M B w w') (hg : w'.grownBy w'' row) (hr : ∀ k, row = some k → B ≤ k ∧ ∃ o, w'.heap[k]? = some o ∧ M o) : Turn M B w w'' :=
  h.trans ⟨hg.os, hg.tape, hg.output, hg.size, fun k hk hb => hg.block k hk (fun e => by
    obtain ⟨h1, o, h2, h3⟩ := hr k e.symm
    rcases hb with hb | hb
    · omega
    · exact hb o h2 h3)⟩
theorem Turn.putObj (h : Turn M B w w') {l : Nat} {o : Obj} (hl : B ≤ l) (ho : w'.heap[l]? = some o) (hM : M o) (o' : Obj) : Turn M B w (w'.putObj l o') :=
  h.grown (grownBy_putObj' w' l o') (fun k e => by cases e; exact ⟨hl, o, ho, hM⟩)
theorem Turn.keep (h : Turn M B w w') {k : Nat} {o : Obj} (hk : w.heap[k]? = some o) (hM : ¬ M o) : w'.heap[k]? = some o :=
  (h.block k (Array.getElem?_eq_some_iff.1 hk).1 (.inr (fun o' ho' => by rw [hk] at ho'; cases ho'; exact hM))).trans hk
theorem Turn.cell (h : Turn M B w w') {p : Addr} {u : Value} (hc : w.cell? p = some u) (hM : ∀ cs e fr, w.heap[p.block]? = some (.cells cs e fr) → ¬ M (.cells cs e fr)) : w'.cell? p = some u := by
  refine (World.cell?_of_block (w := w) (h.block p.block (World.block_lt_of_cell? w p hc) (.inr fun o ho hm => ?_))).trans hc
  cases o with
  | cells cs e fr => exact hM cs e fr ho hm
  | _ => simp [World.cell?, ho] at hc
theorem Turn.own (h : Turn M B w w') {base : Nat} {e : TypeId} {size n : Nat} {v : Value} {xs : List Value} (ho : w.ownsRow base e size v n xs) (hM : ∀ cs fr, ¬ M (.cells cs e fr)) : w'.ownsRow base e size v n xs := by
  obtain ⟨h1, h2⟩ := ho
  refine ⟨h1, ?_⟩
  rcases h2 with h2 | ⟨g, cap, cur, rfl, hg, hh, r⟩
  · exact .inl h2
  · exact .inr ⟨g, cap, cur, rfl, hg, h.keep hh (hM _ _), r⟩
end

/-- A state that abides the turns that M and B allow. -/
def Abides {β : Type} (M : Obj → Prop) (B : Nat) (J : β → World → Prop) : Prop := ∀ s W W', J s W → Turn M B W W' → J s W'
theorem Abides.imp {β : Type} {M M' : Obj → Prop} {B B' : Nat} {J : β → World → Prop} (h : Abides M B J) (hM : ∀ o, M' o → M o) (hB : B ≤ B') : Abides M' B' J :=
  fun s W W' hs ht => h s W W' hs ((ht.imp hM).lower hB)

/-- The contract of an iterator that yields Y: between two rounds it turns what Mi allows, a round turns what Mr allows. -/
def SeqT {α : Type} (F : Fence) (n : Nat) (P : Program) (g : Nat) (lb : Array Value) (encs : α → Array Value) (Mi Mr : Obj → Prop) (B : Nat) (Y : List α) (w : World) : Prop :=
  ∀ (l : Nat) (J Jx : List α → World → Prop) (W : World), Below w.heap.size w W → Abides Mi w.heap.size J → Abides Mi w.heap.size Jx →
    (∀ pre x W1, J pre W1 → pre ++ [x] <+: Y → YieldAt F (n - 1) P l (encs x) W1 fun e W' =>
      (e = .returned (.bool true) ∧ J (pre ++ [x]) W' ∧ Turn Mr B W1 W') ∨ (e = .returned (.bool false) ∧ Jx (pre ++ [x]) W')) →
    J [] W →
    CallsIn F n P g (#[.func (.yield l) #[] #[]] ++ lb) W fun e W' => (∃ v, e = .returned v) ∧ (J Y W' ∨ ∃ pre, pre <+: Y ∧ Jx pre W')

/-- How the body of a round may be left. -/
def bodyT {α : Type} (Mr : Obj → Prop) (B : Nat) (I : List α → World → Prop) (Ix : Code → List α → World → Prop) (xs : List α) (W : World) : Exit → Act → World → Prop
  | .normal, _, W' => KeepsOthers W W' ∧ Turn Mr B W W' ∧ I xs W'
  | .ret, _, W' => KeepsOthers W W' ∧ Ix .ret xs W'
  | .exit id, _, W' => KeepsOthers W W' ∧ Ix (.exit id) xs W'
  | .goto t, _, W' => KeepsOthers W W' ∧ Ix (.goto t) xs W'
  | .panic _, _, _ => False
  | .outgrown, _, _ => False

variable {F : Fence} {n : Nat} {P : Program}

theorem wpIn_rangeFunc_T {α : Type} {g : Operand} {ps : Array Tmp} {assign body : Code} {Q : Exit → Act → World → Prop} {a : Act} {w : World}
    (hro : F.round = none) (h1 : 1 ≤ n) {gf : Nat} {lb : Array Value} (hg : a.eval g = .func (.func gf) #[] lb) (hFg : F.fn gf) (eg : ∀ args w, (callFunc gf args).run P w = .ok (.enter gf args) w)
    {encs : α → Array Value} {Mi Mr : Obj → Prop} (hMi : ∀ o, Mi o → o.isCells = true) (hMr : ∀ o, o.isCells = false → Mr o) {B : Nat} (hB : B ≤ w.heap.size) {Y : List α}
    (hseq : SeqT F (n - 1) P gf lb encs Mi Mr B Y w) (hps : ∀ x, (encs x).size = ps.size)
    (I : List α → World → Prop) (Ix : Code → List α → World → Prop) (hI : Abides (fun o => Mi o ∨ o.isCells = false) w.heap.size I) (hIx : ∀ c, Abides (fun o => Mi o ∨ o.isCells = false) w.heap.size (Ix c)) (h0 : I [] w) (a₁ : α → Act)
    (hassign : ∀ (l : Nat) (x : α) (W : World) (K : Act → World → Prop), K (a₁ x) W →
      assign.wpIn (F.inRound l) (n - 1 - 1) P (Exit.then K (fun _ _ _ => False)) { tmps := (ps.zip (encs x)).foldl (fun t (p, v) => t.setIfInBounds p v) a.tmps, defers := [] } W)
    (hbody : ∀ (l : Nat) (pre : List α) (x : α) (W : World), I pre W → pre ++ [x] <+: Y → body.wpIn (F.inRound l) (n - 1 - 1) P (bodyT Mr B I Ix (pre ++ [x]) W) (a₁ x) W)
    (hdone : ∀ (D : Nat) (W : World), w.heap.size ≤ D → I Y W → W.heap[D]? = some (.deferred (some [])) → Q .normal { a with defers := { target := .collected D, args := #[] } :: a.defers } W)
    (hstop : ∀ (D : Nat) (c : Code) (pre : List α) (W : World), w.heap.size ≤ D → pre <+: Y → Ix c pre W → W.heap[D]? = some (.deferred (some [])) → c.wpIn F n P Q { a with defers := { target := .collected D, args := #[] } :: a.defers } W) :
    (Code.rangeFunc g ps assign body).wpIn F n P Q a w := by
  refine wpIn_rangeFunc ?_
  intro fn hfn
  rw [hro]
  obtain ⟨rec, hrec⟩ : ∃ rec : LoopState → Option Code → Loop, rec = fun st pe => { state := st, pending := pe, fn, tmps := a.tmps, params := ps, assign, body, defers := w.heap.size } := ⟨_, rfl⟩
  obtain ⟨W1, hW1⟩ : ∃ W1, (w.alloc (.deferred (some []))).alloc (.loop (rec .ready none)) = W1 := ⟨_, rfl⟩
  have hL1 : W1.heap[w.heap.size + 1]? = some (.loop (rec .ready none)) := by
    rw [← hW1]; have := World.alloc_heap_new (w.alloc (.deferred (some []))) (.loop (rec .ready none)); rwa [World.size_alloc] at this
  have hK1 : W1.heap[w.heap.size]? = some (.deferred (some [])) := by
    rw [← hW1]; exact (Below.heap_alloc _ _ _ (by simp)).trans (World.alloc_heap_new w _)
  have hb1 : Below w.heap.size w W1 := by
    rw [← hW1]; exact ((Below.refl _ w).alloc (Nat.le_refl _) _).alloc (by simp) _
  have hI1 : I [] W1 := hI _ _ _ h0 (Turn.of_below hb1)
  have put : ∀ {J : List α → World → Prop} {pre : List α} {W : World} {l : Nat} {o : Obj}, Abides (fun o => Mi o ∨ o.isCells = false) w.heap.size J → J pre W → w.heap.size ≤ l → W.heap[l]? = some o → o.isCells = false → ∀ o', J pre (W.putObj l o') :=
    fun hJ hj hl ho hc o' => hJ _ _ _ hj ((Turn.refl _ _ _).putObj hl ho (.inr hc) o')
  have notMi : ∀ o : Obj, o.isCells = false → ¬ Mi o := fun o ho hm => by have := hMi o hm; rw [ho] at this; cases this
  refine ⟨w.heap.size + 1, [{ target := .collected w.heap.size, args := #[] }], W1, { target := .fn (.func gf) lb, args := #[.func (.yield (w.heap.size + 1)) #[] #[]] }, W1, gf,
    #[.func (.yield (w.heap.size + 1)) #[] #[]] ++ lb, W1, ?_, ?_, ?_, ?_, fun _ => h1, ?_⟩
  · rw [← hW1, hrec]; exact run_enterLoop_outer _ _ _ _ _
  · simp only [resolve, hg]
    simp [go_sem]
  · intro f' hf'; simp [Target.leads] at hf'; subst hf'; exact hFg
  · simp [invoke, go_sem, eg]
  · refine (hseq (w.heap.size + 1)
      (fun pre W => I pre W ∧ W.heap[w.heap.size + 1]? = some (.loop (rec .ready none)) ∧ W.heap[w.heap.size]? = some (.deferred (some [])))
      (fun pre W => ∃ c, Ix c pre W ∧ W.heap[w.heap.size + 1]? = some (.loop (rec .done (some c))) ∧ W.heap[w.heap.size]? = some (.deferred (some [])))
      W1 hb1
      (fun s A C hs ht => ⟨hI s A C hs.1 (ht.imp fun _ => .inl), ht.keep hs.2.1 (notMi _ rfl), ht.keep hs.2.2 (notMi _ rfl)⟩)
      (fun s A C hs ht => by
        obtain ⟨c, hc, hl, hk⟩ := hs
        exact ⟨c, hIx c s A C hc (ht.imp fun _ => .inl), ht.keep hl (notMi _ rfl), ht.keep hk (notMi _ rfl)⟩)
      ?_ ⟨hI1, hL1, hK1⟩).mono ?_
    · -- one round
      rintro pre x W ⟨hi, hl, hk⟩ hlen
      have hlt : w.heap.size + 1 < W.heap.size := (Array.getElem?_eq_some_iff.1 hl).1
      have hy := run_yield (P := P) (args := encs x) hl (by rw [hrec]; exact hps x)
      rw [hrec] at hy
      refine ⟨fn, _, assign, body, hy, roundIn_of_wpIn hfn (hassign _ x W _ ⟨_, run_beginRound hl (by rw [hrec]), ?_⟩)⟩
      have hl2 : (W.putObj (w.heap.size + 1) (.loop { rec .ready none with state := .busy })).heap[w.heap.size + 1]? = some (.loop { rec .ready none with state := .busy }) := World.putObj_heap_same hlt
      have hk2 : (W.putObj (w.heap.size + 1) (.loop { rec .ready none with state := .busy })).heap[w.heap.size]? = some (.deferred (some [])) := (World.putObj_heap_other (by omega)).trans hk
      have hw2 : Turn Mr B W (W.putObj (w.heap.size + 1) (.loop { rec .ready none with state := .busy })) := (Turn.refl _ _ _).putObj (by omega) hl (hMr _ rfl) _
      refine wpIn_mono (hbody _ pre x _ (put hI hi (by omega) hl rfl _) hlen) ?_
      have fin : ∀ (jump : Option Code) (W3 : World), KeepsOthers (W.putObj (w.heap.size + 1) (.loop { rec .ready none with state := .busy })) W3 →
          (Instr.endRound (w.heap.size + 1) jump).run P W3 = .ok (.bool jump.isNone) (W3.putObj (w.heap.size + 1) (.loop (rec (if jump.isNone then .ready else .done) jump))) ∧
          W3.heap[w.heap.size + 1]? = some (.loop { rec .ready none with state := .busy }) ∧
          (W3.putObj (w.heap.size + 1) (.loop (rec (if jump.isNone then .ready else .done) jump))).heap[w.heap.size + 1]? = some (.loop (rec (if jump.isNone then .ready else .done) jump)) ∧
          (W3.putObj (w.heap.size + 1) (.loop (rec (if jump.isNone then .ready else .done) jump))).heap[w.heap.size]? = some (.deferred (some [])) := fun jump W3 hk3 => by
        have hl3 := hk3.same _ _ hl2 rfl
        have := run_endRound (P := P) jump hl3
        rw [hrec] at this ⊢
        exact ⟨this, by rw [hrec] at hl3; exact hl3, World.putObj_heap_same (Array.getElem?_eq_some_iff.1 hl3).1, (World.putObj_heap_other (by omega)).trans (hk3.same _ _ hk2 rfl)⟩
      rintro e a3 W3 hp
      cases e with
      | normal =>
        obtain ⟨hk3, hkp3, hi3⟩ := hp
        obtain ⟨hr, hl3, hl4, hk4⟩ := fin none W3 hk3
        exact ⟨_, _, hr, .inl ⟨rfl, ⟨put hI hi3 (by omega) hl3 rfl _, hl4, hk4⟩, (hw2.trans hkp3).putObj (by omega) hl3 (hMr _ rfl) _⟩⟩
      | ret =>
        obtain ⟨hk3, hi3⟩ := hp
        obtain ⟨hr, hl3, hl4, hk4⟩ := fin (some .ret) W3 hk3
        exact ⟨_, _, hr, .inr ⟨rfl, .ret, put (hIx _) hi3 (by omega) hl3 rfl _, hl4, hk4⟩⟩
      | exit id =>
        obtain ⟨hk3, hi3⟩ := hp
        obtain ⟨hr, hl3, hl4, hk4⟩ := fin (some (.exit id)) W3 hk3
        exact ⟨_, _, hr, .inr ⟨rfl, .exit id, put (hIx _) hi3 (by omega) hl3 rfl _, hl4, hk4⟩⟩
      | goto t =>
        obtain ⟨hk3, hi3⟩ := hp
        obtain ⟨hr, hl3, hl4, hk4⟩ := fin (some (.goto t)) W3 hk3
        exact ⟨_, _, hr, .inr ⟨rfl, .goto t, put (hIx _) hi3 (by omega) hl3 rfl _, hl4, hk4⟩⟩
      | panic ch => exact hp.elim
      | outgrown => exact hp.elim
    · -- behind the iterator
      rintro e W2 ⟨⟨v, rfl⟩, (⟨hi, hl, hk⟩ | ⟨pre, hpre, c, hi, hl, hk⟩)⟩
      · exact ⟨none, _, by have := run_endLoop (P := P) hl (by rw [hrec]; simp); rw [hrec] at this; exact this, hdone _ _ (Nat.le_refl _) (put hI hi (by omega) hl rfl _) ((World.putObj_heap_other (by omega)).trans hk)⟩
      · exact ⟨some c, _, by have := run_endLoop (P := P) hl (by rw [hrec]; simp); rw [hrec] at this; exact this, hstop _ c pre _ (Nat.le_refl _) hpre (put (hIx c) hi (by omega) hl rfl _) ((World.putObj_heap_other (by omega)).trans hk)⟩
end Go.Proofs.Ytoioineibfldcaa.T
end

section
/-
  The plain functions behind impl.heights (what it yields for a list of kid counts) and the words for its memory. No condition.
-/
set_option linter.unusedVariables false
namespace Go.Proofs.Ytoioineibfldcaa.K
open Go.RowKit Go.Proofs.YtoioineibfldcaaW.PrintWords Go.Proofs.YtoioineibfldcaaW.PrintLast Go.Proofs.YtoioineibfldcaaW.PrintMore
open Go.Proofs.Ytoioineibfldcaa.T

/-- A node's kids, folded: how deep, and where it begins. -/
def foldKid (w kid : Int × Int) (first : Bool) : Int × Int := ((if w.1 < kid.1 + 1 then kid.1 + 1 else w.1), if first then kid.2 else w.2)
def foldKids (w : Int × Int) : List (Int × Int) → Int × Int
  | [] => w
  | kid :: r => (r.foldl (fun w kid => foldKid w kid false) (foldKid w kid true))

theorem foldKids_snoc (w : Int × Int) (xs : List (Int × Int)) (k : Int × Int) : foldKids w (xs ++ [k]) = foldKid (foldKids w xs) k xs.isEmpty := by
  cases xs with
  | nil => rfl
  | cons x r => simp [foldKids, List.foldl_append]
theorem foldKids_take (w : Int × Int) (xs : List (Int × Int)) (j : Nat) (h : j < xs.length) : foldKids w (xs.take (j + 1)) = foldKid (foldKids w (xs.take j)) (xs.getD j (0, 0)) (j == 0) := by
  rw [List.take_succ_eq_append_getElem h, foldKids_snoc, List.getD_eq_getElem?_getD, List.getElem?_eq_getElem h]
  congr 1
  cases j with
  | zero => simp
  | succ j =>
    cases xs with
    | nil => simp at h
    | cons x r => simp

/-- What heights yields from the stack st and the index i on. -/
def hts : List (Int × Int) → Int → List Int → List (Int × Int)
  | st, _, [] => if st.length = 1 then [] else [(-1, -1)]
  | st, i, k :: ks => if k < 0 ∨ (st.length : Int) < k then [(-1, -1)] else
      let e := foldKids (1, i) (st.drop (st.length - k.toNat))
      e :: hts (st.take (st.length - k.toNat) ++ [e]) (i + 1) ks

theorem hts_bad (st : List (Int × Int)) (i k : Int) (ks : List Int) (h : k < 0 ∨ (st.length : Int) < k) : hts st i (k :: ks) = [(-1, -1)] := by
  rw [hts, if_pos h]
theorem hts_ok (st : List (Int × Int)) (i k : Int) (ks : List Int) (h : ¬ (k < 0 ∨ (st.length : Int) < k)) :
    hts st i (k :: ks) = foldKids (1, i) (st.drop (st.length - k.toNat)) :: hts (st.take (st.length - k.toNat) ++ [foldKids (1, i) (st.drop (st.length - k.toNat))]) (i + 1) ks := by
  rw [hts, if_neg h]
theorem drop_f3 (l0 : List S41) (i : Nat) (h : i < l0.length) : (l0.map (·.f3)).drop i = (rd_T41 l0 (i : Int)).f3 :: (l0.map (·.f3)).drop (i + 1) := by
  rw [List.drop_eq_getElem_cons (by simpa using h)]
  simp [rd_T41, List.getD_eq_getElem?_getD, h]
theorem foldKids_snd (w : Int × Int) (i : Int) (xs : List (Int × Int)) (hw : 0 ≤ w.2 ∧ w.2 ≤ i) (hx : ∀ e ∈ xs, 0 ≤ e.2 ∧ e.2 < i) : 0 ≤ (foldKids w xs).2 ∧ (foldKids w xs).2 ≤ i := by
  cases xs with
  | nil => exact hw
  | cons x r =>
    have key : ∀ (r : List (Int × Int)) (w : Int × Int), (r.foldl (fun w kid => foldKid w kid false) w).2 = w.2 := by
      intro r
      induction r with
      | nil => intro w; rfl
      | cons y r ih => intro w; rw [List.foldl_cons, ih]; rfl
    have h1 := hx x (by simp)
    have h2 : (foldKids w (x :: r)).2 = x.2 := by rw [foldKids, key]; rfl
    rw [h2]
    omega

theorem pre_snoc {α : Type} (pre : List α) (x : α) (r : List α) : pre ++ [x] <+: pre ++ x :: r := ⟨r, by simp⟩

def encSt (st : List (Int × Int)) : List Value := st.flatMap fun e => [.int .i64 e.1, .int .i64 e.2]

def Ty (T : List Nat) (o : Obj) : Prop := ∃ cs e fr, o = .cells cs e fr ∧ e ∈ T
abbrev MiH : Obj → Prop := Ty [41, 76]
abbrev MrH : Obj → Prop := fun o => o.isCells = false ∨ Ty [3, 56] o
abbrev encsH (x : Int × Int) : Array Value := #[.int .i64 x.1, .int .i64 x.2]

def Blk (w : World) (g : Nat) (t : TypeId) (cs : Array Value) : Prop := w.heap[g]? = some (.cells cs t (0, 0))
section
variable {w w' : World} {g : Nat} {t : TypeId} {cs : Array Value}
theorem Blk.lt (h : Blk w g t cs) : g < w.heap.size := (Array.getElem?_eq_some_iff.1 h).1
theorem Blk.cell (h : Blk w g t cs) (i : Nat) : w.cell? ⟨g, i, none⟩ = cs[i]? := cell_of_row w g i cs t (0, 0) h
theorem Blk.frozen (h : Blk w g t cs) (i : Nat) : w.frozen? ⟨g, i, none⟩ = false := by
  unfold Blk at h
  simp [World.frozen?, h]
theorem Blk.new (w : World) (t : TypeId) (cs : Array Value) : Blk (w.alloc (.cells cs t)) w.heap.size t cs := heap_alloc_new w _
theorem Blk.drew (h : Blk w g t cs) : Blk w.drew g t cs := h
theorem Blk.alloc (h : Blk w g t cs) (o : Obj) : Blk (w.alloc o) g t cs := (Below.heap_alloc w o g h.lt).trans h
theorem Blk.set_ (h : Blk w g t cs) (i : Nat) (u : Value) : Blk (w.setCell ⟨g, i, none⟩ u) g t (cs.setIfInBounds i u) := by
  unfold Blk at h ⊢
  simp [World.setCell, Array.getElem?_modify, h]
theorem Blk.far (h : Blk w g t cs) {p : Addr} (hp : g ≠ p.block) (u : Value) : Blk (w.setCell p u) g t cs := (Below.heap_setCell w p u g hp).trans h
theorem Blk.grown {row : Option Nat} (h : Blk w g t cs) (hb : w.grownBy w' row) (hg : some g ≠ row) : Blk w' g t cs := (hb.block g h.lt hg).trans h
theorem Blk.turn {M : Obj → Prop} {B : Nat} (h : Blk w g t cs) (hb : Turn M B w w') (hM : ¬ M (.cells cs t (0, 0))) : Blk w' g t cs := hb.keep h hM
theorem Blk.ne_ {g' : Nat} {t' : TypeId} {cs' : Array Value} (h : Blk w g t cs) (h' : Blk w g' t' cs') (hne : t ≠ t') : g ≠ g' := by
  rintro rfl
  unfold Blk at h h'
  rw [h] at h'
  injection h' with h'
  injection h' with _ ht
  exact hne ht
theorem own_blk_ne {base : Nat} {e : TypeId} {size n : Nat} {v : Value} {xs : List Value} (h : w.ownsRow base e size v n xs) (hg : Blk w g t cs) (hne : e ≠ t) : v.ownBlock ≠ some g := by
  rcases h.2 with ⟨rfl, _⟩ | ⟨g', cap, cur, rfl, _, hh, _⟩
  · simp [Value.ownBlock]
  · intro he
    have : g' = g := by simpa [Value.ownBlock] using he
    subst this
    exact Blk.ne_ (t := e) hh hg hne rfl
end
end Go.Proofs.Ytoioineibfldcaa.K
end

section
/-
  A law of my own: a region that draws its order, whose head only reads and whose tail is forced, inside the wide fence (so that the tail may call a loop's yield): the fenced twin of the library's still-tail law. No condition.
-/
namespace Go.Proofs.Ytoioineibfldcaa.T
open Go
section
variable {P : Program} {ops : Array Oper} {md : Region.Mode} {w : World} {n : Nat} {Q : Exit → Act → World → Prop}
theorem wpIn_of_still {o : Oper} {a : Act} {K : Act → Prop} {K' : Act → World → Prop} (h : ∀ a, K a → K' a w) (hh : o.still P a w K) : o.wpIn Fence.wide n P a w K' Q := by
  refine ⟨fun _ _ => trivial, ?_⟩
  rw [show Fence.wide.round = none from rfl, Oper.semAt_none]
  unfold Oper.still at hh
  generalize (execOp a.eval o).run P w = r at *
  cases r with
  | ok x w' =>
    cases x <;> simp only [Oper.stillUpon] at hh
    case enter f args =>
      obtain ⟨h1, v, hc, hn⟩ := hh
      subst h1
      exact ⟨fun h => (by simp [Fence.wide] at h), callsIn_wide.2 (hc.mono fun e w'' he => by obtain ⟨rfl, rfl⟩ := he; exact h _ hn)⟩
    all_goals (obtain ⟨h1, h2⟩ := hh; subst h1; exact h _ h2)
  | halt x w' => simp only [Oper.stillUpon] at hh
theorem wpOpIn_of_stOp {i : Nat} {a : Act} {K : Act → Prop} {K' : Act → World → Prop} (h : ∀ a, K a → K' a w) (hh : stOp P ops w i K a) : wpOpIn Fence.wide n P ops Q i K' a w := by
  unfold stOp at hh
  unfold wpOpIn
  split
  · rename_i ho; simp only [ho] at hh; exact h _ hh
  · rename_i o ho
    simp only [ho] at hh
    split
    · rename_i hw; simp only [hw, if_true] at hh; exact wpIn_of_still h hh
    · rename_i hw; simp only [hw] at hh; exact ⟨fun _ _ => trivial, h _ hh⟩
theorem wpAnyIn_of_head {k g : Nat} {L : Array Bool → Act → Prop} (hL : ∀ listed a, L listed a → wpAnyIn Fence.wide n P md ops Q g listed a w) :
    ∀ (f : Nat) (listed : Array Bool) (a : Act), wpAnyL P md ops w k L f listed a → wpAnyIn Fence.wide n P md ops Q (f + g) listed a w
  | 0, listed, a, h => by rw [Nat.zero_add]; exact hL _ _ h
  | f + 1, listed, a, h => by
    rw [show f + 1 + g = (f + g) + 1 by omega]
    exact ⟨fun h0 => absurd h0 h.1, fun i hi => wpOpIn_of_stOp (fun a' h' => wpAnyIn_of_head hL f _ a' h') (h.2 i hi).2⟩
theorem wpAnyIn_of_seq : ∀ (l : List Oper) (k : Nat) (listed : Array Bool) (a : Act) (w : World), (∀ j, l[j]? = ops[k + j]?) →
    Region.seqB md ops l.length k listed = true → wpListIn Fence.wide n P ops Q l a w → wpAnyIn Fence.wide n P md ops Q l.length listed a w
  | [], _, _, _, _, _, hB, h => ⟨by simpa [Region.seqB] using hB, h⟩
  | o :: l, k, listed, a, w, hl, hB, h => by
    have h0 : ops[k]? = some o := by simpa using (hl 0).symm
    simp only [List.length_cons, Region.seqB, Bool.and_eq_true, decide_eq_true_eq] at hB
    refine ⟨fun h1 => (by rw [hB.1] at h1; cases h1), fun i hi => ?_⟩
    rw [hB.1] at hi
    have hik : i = k := by simpa using hi
    subst hik
    have hw : wpOpIn Fence.wide n P ops Q i (wpListIn Fence.wide n P ops Q l) a w := by unfold wpOpIn; simp only [h0]; exact h
    exact wpOpIn_mono (fun a' w' h' => wpAnyIn_of_seq l (i + 1) _ a' w' (fun j => by have := hl (j + 1); simpa [Nat.add_assoc, Nat.add_comm 1 j] using this) hB.2 h') hw
theorem wpIn_region_still_tail {id : Nat} {a : Act} {l : List Oper} (k : Nat) (hm : P.follows .mixedOrders = true) (hB : Region.lexTailB .any l.toArray k = true)
    (h : wpStill P l.toArray { w with drawn := w.drawn + 1 } (fun a' => wpListIn Fence.wide n P l.toArray Q (l.drop k) a' { w with drawn := w.drawn + 1 }) (l.take k) a) : (Code.region id l.toArray true).wpIn Fence.wide n P Q a w := by
  simp only [Region.lexTailB, Bool.and_eq_true, decide_eq_true_eq] at hB
  obtain ⟨⟨⟨⟨hsel, hn⟩, hs⟩, hc⟩, hlex⟩ := hB
  have hn' : k < l.length := by simpa using hn
  have htl : (l.take k).length = k := by simp; omega
  have hdl : (l.drop k).length = l.toArray.size - k := by simp
  have inv0 : HeadInv .any l.toArray k (Array.replicate l.toArray.size false) :=
    ⟨by simp, fun j oj _ hl => (by rw [getD_replicate_false] at hl; cases hl), fun t _ ht => getD_in (by simpa using ht) (getD_replicate_false _ _)⟩
  have H := wpAnyL_lex (md := .any) (g := l.toArray.size - k) hsel hs hc hn (l.take k) 0 _ a (fun j hj => by
    have hj' : j < k := by rw [htl] at hj; exact hj
    simp [hj']) (by simpa using htl) inv0 (by rw [htl]; exact hlex) h
  refine wpIn_region_any hm ?_
  have := wpAnyIn_of_head (Q := Q) (n := n) (g := l.toArray.size - k) (fun listed a' hL => by
    have := wpAnyIn_of_seq (md := .any) (Q := Q) (n := n) (l.drop k) k listed a' { w with drawn := w.drawn + 1 } (fun j => by simp [List.getElem?_drop]) (by rw [hdl]; exact hL.1) hL.2
    rwa [hdl] at this) _ _ _ H
  rw [htl, show k + (l.toArray.size - k) = l.toArray.size by omega] at this
  exact this
end
end Go.Proofs.Ytoioineibfldcaa.T
end

section
/-
  impl.kidsOf and its function literal (functions 50, 56): it yields the kids of the root, each cut so that none can be written behind; what it writes between two rounds: nothing that is old. Conditions: at most 6000 nodes; the ends of the kids are given by 'es'.
-/
set_option linter.unusedVariables false
namespace Go.Proofs.Ytoioineibfldcaa.K
open Go.RowKit Go.Proofs.YtoioineibfldcaaW.PrintWords Go.Proofs.YtoioineibfldcaaW.PrintLast Go.Proofs.YtoioineibfldcaaW.PrintMore
open Go.Proofs.Ytoioineibfldcaa.T
set_option maxRecDepth 100000
set_option maxHeartbeats 2000000

theorem kidsOf_any (A Af : Option Addr) (n c nf cf : Nat) (w : World) :
    Calls Try.prog 50 #[.slice A n c, .slice Af nf cf] w fun e w' => e = .returned (.func (.func 56) #[] #[.pointer (some ⟨w.heap.size, 0, none⟩), .pointer (some ⟨w.heap.size + 1, 0, none⟩)]) ∧
      (w.alloc (.cells #[.slice A n c] 26)).alloc (.cells #[.slice Af nf cf] 56) = w' := by
  go_enter Try.func50, Try.ntmps50
  go_wp2
  go_ret
  exact ⟨rfl, rfl⟩

/-- What t[a:b:b] is. -/
def cutV (ad : Addr) (a b : Nat) : Value := .slice (if b = a then some ad else some (ad.add (a * 5))) (b - a) (b - a)
def kidY (ad : Addr) (es : List Nat) (K : Nat) : List (Int × Value) := (List.range K).map fun j : Nat => ((j : Int), cutV ad (es.getD j 0) (es.getD (j + 1) 0))
abbrev encsK (x : Int × Value) : Array Value := #[.int .i64 x.1, x.2]
abbrev MiK : Obj → Prop := fun _ => False
def MrK (bx : Value) : Obj → Prop := fun o => o.isCells = false ∨ Ty [43] o ∨ ∃ cs fr, o = .cells cs 26 fr ∧ cs ≠ #[bx]
theorem kidY_take (ad : Addr) (es : List Nat) (K j : Nat) (h : j < K) : (kidY ad es K).take (j + 1) = (kidY ad es K).take j ++ [((j : Int), cutV ad (es.getD j 0) (es.getD (j + 1) 0))] := by
  rw [List.take_succ_eq_append_getElem (by simp [kidY]; exact h)]
  simp [kidY]

theorem kids1 (nn : Nat) (ad : Addr) (c0 : Nat) (l0 : List S41) (Af : Option Addr) (cf : Nat) (froms : List Int) (es : List Nat) (K : Nat) (w0 w : World) (Bt Bf : Nat)
    (hn : 0 < l0.length) (hbig : l0.length ≤ 6000) (hK : (rd_T41 l0 ((l0.length - 1 : Nat) : Int)).f3 = K) (hes : es.length = K + 1) (hlast : es[K]? = some (l0.length - 1))
    (hstep : ∀ (k p e : Nat), es[k]? = some e → es[k + 1]? = some p → 1 ≤ p ∧ p ≤ l0.length - 1 ∧ e ≤ p ∧ froms[p - 1]? = some (e : Int)) (hKb : K ≤ 6000) (hfl : froms.length = l0.length)
    (hr0 : Kd.C k41 w0 (some ad) l0.length l0) (hc0 : l0.length ≤ c0) (hb0 : Below w0.heap.size w0 w) (hrf : Kd.C (Kd.int .i64) w Af froms.length froms)
    (hBt : Blk w Bt 26 #[.slice (some ad) l0.length c0]) (hBf : Blk w Bf 56 #[.slice Af froms.length cf]) (hcf : froms.length ≤ cf) :
    SeqT Fence.wide nn Try.prog 56 #[.pointer (some ⟨Bt, 0, none⟩), .pointer (some ⟨Bf, 0, none⟩)] encsK MiK (MrK (.slice (some ad) l0.length c0)) w0.heap.size (kidY ad es K) w := by
  intro l J Jx W hW hJ hJx hY h0
  refine callsIn_wide.2 ?_
  have KT : Aside0 (Blk W Bt 26 #[.slice (some ad) l0.length c0]) := ⟨(hW.block _ hBt.lt).trans hBt⟩
  have KF : Aside0 (Blk W Bf 56 #[.slice Af froms.length cf]) := ⟨(hW.block _ hBf.lt).trans hBf⟩
  have zT := KT.out.cell 0
  have zF := KF.out.cell 0
  simp only [List.getElem?_toArray, List.getElem?_cons_zero] at zT zF
  have H0 := Aside0.mk h0
  have HY := Aside0.mk hY
  have HJ := Aside0.mk hJ
  have HJx := Aside0.mk hJx
  have HW := Aside0.mk hW
  have HB0 := Aside0.mk hb0
  have HB := Aside0.mk (hb0.trans (hW.mono hb0.size))
  have HRF := Aside0.mk (Kd.C_below hrf hW)
  have HLAST := Aside0.mk hlast
  have HSTEP := Aside0.mk hstep
  have HES := Aside0.mk hes
  have HFL := Aside0.mk hfl
  obtain ⟨ad', hA, _, _, _, hx3, _⟩ := at_T41 hr0 ((l0.length - 1 : Nat) : Int) (by omega) (by omega)
  cases hA
  replace hx3 := (HB.out.cell (World.block_lt_of_cell? w0 _ hx3)).trans hx3
  rw [Int.toNat_natCast, hK] at hx3
  obtain ⟨N, hN⟩ : ∃ N, N = l0.length := ⟨_, rfl⟩
  rw [← hN] at hx3 hn hbig hc0 zT
  have HR0 := Aside0.mk hr0
  obtain ⟨m, rfl⟩ : ∃ m, N = m + 1 := ⟨N - 1, by omega⟩
  have HN := Aside0.mk hN
  clear h0 hY hJ hJx hr0 hb0 hW hBt hBf hlast hstep hes hK hfl hrf hN
  simp only [Nat.add_sub_cancel] at hx3
  have hw1 : IntKind.i64.wrap (((m + 1 : Nat) : Int) - 1) = (m : Int) := by rw [i64_w, show ((m + 1 : Nat) : Int) - 1 = (m : Int) by omega]; unfold wrap64; omega
  go_enter Try.func56, Try.ntmps56
  have hw2 : IntKind.i64.wrap ((K : Int) + 1) = (K : Int) + 1 := by rw [i64_w]; unfold wrap64; omega
  have hw3 : IntKind.i64.wrap ((K : Int) - 1) = (K : Int) - 1 := by rw [i64_w]; unfold wrap64; omega
  go_upto_region 2 with (refine Kd.R_make (Kd.int .i64) _ 3 rfl (N := 17) rfl 56 _ _ rfl ((K : Int) + 1) rfl rfl Try.underlying56 (.int .i64 0) 8 info3 rfl (by decide) (by omega) 0 (ok := fun _ => True) (okp := fun _ => True) rfl (fun _ hk => hk) trivial (by omega) (by omega) (Below.refl _ _) (Nat.le_refl _) ?_; intro v17 w4 ho5 hb hg_ hnew_; rw [show ((K : Int) + 1).toNat = K + 1 by omega] at ho5; obtain ⟨g, cap, hv17, hg1, hg2, _⟩ := Kd.R_form ho5 (by simp); rw [List.length_replicate] at hv17; subst hv17; have ho := Kd.own_of_R ho5; rw [List.length_replicate] at ho; have HOW := Aside0.mk ho; have HB4 := Aside0.mk hb; clear hg_ hnew_ ho5 ho hb)
  have zT4 := (HB4.out.cell (World.block_lt_of_cell? W _ zT)).trans zT
  obtain ⟨hc4, hf4⟩ := own_at HOW.out (K : Int) (by omega) (by omega)
  rw [Int.toNat_natCast] at hc4 hf4
  go_upto_region 4 with (fail)
  have hst := own_store HOW.out (K : Int) (m : Int)
  rw [Int.toNat_natCast] at hst
  obtain ⟨W5, hW5⟩ : ∃ W5, w4.setCell ⟨g, K, none⟩ (.int .i64 (m : Int)) = W5 := ⟨_, rfl⟩
  rw [hW5] at hst
  have hB5 : Below W.heap.size W W5 := by rw [← hW5]; exact HB4.out.setCell (p := ⟨g, K, none⟩) hg1 _
  have hinit : (List.replicate (K + 1) (0 : Int)).set K (m : Int) = List.replicate K 0 ++ (es.drop K).map (fun e : Nat => (e : Int)) := by
    have h1 : es.drop K = [m] := by
      have hlt : K < es.length := by rw [HES.out]; omega
      have h2 := HLAST.out
      rw [List.getElem?_eq_getElem hlt] at h2
      have h3 : es[K] = m := by have := HN.out; have := Option.some.inj h2; omega
      rw [List.drop_eq_getElem_cons hlt, h3, List.drop_of_length_le (by rw [HES.out]; omega)]
    rw [h1, List.replicate_succ', List.set_append_right _ _ (by simp)]
    simp
  rw [hinit] at hst
  have HOW5 := Aside0.mk hst.1
  have HB5 := Aside0.mk hB5
  rw [hW5]
  clear hst hB5 hinit hW5 hc4 hf4 zT4 hx3 HOW HB4
  go_loopw [6] (fun v6 wr => ∃ (j : Nat), v6 = .int .i64 ((j : Int) - 1) ∧ j ≤ K ∧ Aside0 (wr.ownsRow W.heap.size 3 1 (.slice (some ⟨g, 0, none⟩) (K + 1) cap) (K + 1) (nums .i64 (List.replicate j 0 ++ (es.drop j).map (fun e : Nat => (e : Int))))) ∧ Aside0 (Below W.heap.size W wr))
    (fun i _ => (intOf i + 1).toNat)
  case atStart => exact ⟨K, by go_num, Nat.le_refl _, HOW5, HB5⟩
  case round =>
    obtain ⟨j, rfl, hj, HO, HBr⟩ := hrel
    by_cases hjp : 0 < j
    · obtain ⟨k, rfl⟩ : ∃ k, j = k + 1 := ⟨j - 1, by omega⟩
      have hk : k < es.length := by rw [HES.out]; omega
      have hk1 : k + 1 < es.length := by rw [HES.out]; omega
      obtain ⟨p, hp⟩ : ∃ p, es[k + 1] = p := ⟨_, rfl⟩
      obtain ⟨e, he⟩ : ∃ e, es[k] = e := ⟨_, rfl⟩
      obtain ⟨s1, s2, s3, s4⟩ := HSTEP.out k p e (by rw [List.getElem?_eq_getElem hk, he]) (by rw [List.getElem?_eq_getElem hk1, hp])
      obtain ⟨q, rfl⟩ : ∃ q, p = q + 1 := ⟨p - 1, by omega⟩
      rw [Nat.add_sub_cancel] at s4
      have hql : q < froms.length := (List.getElem?_eq_some_iff.1 s4).1
      obtain ⟨c1, _⟩ := own_at HO.out ((k : Int) + 1) (by omega) (by omega)
      have hrd : rd (List.replicate (k + 1) 0 ++ (es.drop (k + 1)).map (fun e : Nat => (e : Int))) ((k : Int) + 1) = (q : Int) + 1 := by
        rw [rd, show ((k : Int) + 1).toNat = k + 1 by omega, List.getD_eq_getElem?_getD, List.getElem?_append_right (by simp)]
        simp [List.getElem?_eq_getElem hk1, hp]
      rw [hrd, show ((k : Int) + 1).toNat = k + 1 by omega] at c1
      obtain ⟨c2, f2⟩ := own_at HO.out (k : Int) (by omega) (by omega)
      rw [Int.toNat_natCast] at c2 f2
      obtain ⟨adf, haf, c3⟩ := Kd.at_int (Kd.C_below HRF.out HBr.out) (q : Int) (by omega) (by omega)
      subst haf
      rw [Int.toNat_natCast, rd, Int.toNat_natCast, List.getD_eq_getElem?_getD, s4, Option.getD_some] at c3
      have zFr := (HBr.out.cell (World.block_lt_of_cell? W _ zF)).trans zF
      have hw5 : IntKind.i64.wrap ((k : Int) + 1) = (k : Int) + 1 := by rw [i64_w]; unfold wrap64; omega
      have hw6 : IntKind.i64.wrap (q : Int) = (q : Int) := by have := HFL.out; have := HN.out; rw [i64_w]; unfold wrap64; omega
      have hw7 : IntKind.i64.wrap ((k : Int) - 1) = (k : Int) - 1 := by rw [i64_w]; unfold wrap64; omega
      have hnext : (List.replicate (k + 1) (0 : Int) ++ (es.drop (k + 1)).map (fun e : Nat => (e : Int))).set k (e : Int) = List.replicate k 0 ++ (es.drop k).map (fun e : Nat => (e : Int)) := by
        rw [List.replicate_succ', List.append_assoc, List.set_append_right _ _ (by simp), List.drop_eq_getElem_cons hk, he]
        simp
      have hst := own_store HO.out (k : Int) (e : Int)
      rw [Int.toNat_natCast, hnext] at hst
      have HST := Aside0.mk hst.1
      rw [show (((k + 1 : Nat) : Int) - 1) = (k : Int) by omega]
      clear hnext hst hrd hp he s4
      have hqi : (q : Int) < (froms.length : Int) := by omega
      have hki : (k : Int) < ((K + 1 : Nat) : Int) := by omega
      have hki1 : (k : Int) + 1 < (K : Int) + 1 := by omega
      have hki2 : (0 : Int) ≤ (k : Int) + 1 := by omega
      have hki3 : ((k : Int) + 1).toNat = k + 1 := by omega
      have hkK : k < K := by omega
      go_wp2
      go_still_tail 11, (by kernel_rfl)
      change wpList _ _ _ _ _ wr.drew
      go_wp2
      go_roundw
      case rel => exact ⟨k, rfl, by omega, HST, ⟨(HBr.out.setCell (p := ⟨g, k, none⟩) hg1 _).drew⟩⟩
      case measure => simp [intOf]
    · obtain rfl : j = 0 := by omega
      rw [show (((0 : Nat) : Int) - 1) = -1 from rfl]
      go_wp2
      go_loopw [7, 43] (fun v7 v43 w2 => ∃ (j : Nat), v43 = .int .i64 j ∧ j ≤ K ∧ Aside0 (w2.ownsRow W.heap.size 3 1 (.slice (some ⟨g, 0, none⟩) (K + 1) cap) (K + 1) (nums .i64 (es.map (fun e : Nat => (e : Int))))) ∧ Aside0 (Blk w2 Bt 26 #[.slice (some ad) (m + 1) c0]) ∧ Aside0 (J ((kidY ad es K).take j) w2))
        (fun _ i _ => K - (intOf i).toNat)
      case atStart =>
        refine ⟨0, rfl, Nat.zero_le _, ⟨by simpa using HO.out⟩, ⟨?_⟩, ⟨?_⟩⟩
        · rw [HN.out]; exact (HBr.out.block _ KT.out.lt).trans KT.out
        · exact HJ.out _ _ _ H0.out (Turn.of_below HBr.out)
      case round =>
        obtain ⟨j, rfl, hj, HO2, KT2, HJP⟩ := hrel
        by_cases hlt : j < K
        · have hk : j < es.length := by rw [HES.out]; omega
          have hk1 : j + 1 < es.length := by rw [HES.out]; omega
          obtain ⟨b, hb⟩ : ∃ b, es[j + 1] = b := ⟨_, rfl⟩
          obtain ⟨a, ha⟩ : ∃ a, es[j] = a := ⟨_, rfl⟩
          obtain ⟨s1, s2, s3, _⟩ := HSTEP.out j b a (by rw [List.getElem?_eq_getElem hk, ha]) (by rw [List.getElem?_eq_getElem hk1, hb])
          have hbm : b ≤ m := by have := HN.out; omega
          obtain ⟨c1, _⟩ := own_at HO2.out ((j : Int) + 1) (by omega) (by omega)
          have hrd1 : rd (es.map (fun e : Nat => (e : Int))) ((j : Int) + 1) = (b : Int) := by
            rw [rd, show ((j : Int) + 1).toNat = j + 1 by omega, List.getD_eq_getElem?_getD, List.getElem?_map, List.getElem?_eq_getElem hk1, hb]
            rfl
          rw [hrd1, show ((j : Int) + 1).toNat = j + 1 by omega] at c1
          obtain ⟨c2, _⟩ := own_at HO2.out (j : Int) (by omega) (by omega)
          have hrd2 : rd (es.map (fun e : Nat => (e : Int))) (j : Int) = (a : Int) := by
            rw [rd, Int.toNat_natCast, List.getD_eq_getElem?_getD, List.getElem?_map, List.getElem?_eq_getElem hk, ha]
            rfl
          rw [hrd2, Int.toNat_natCast] at c2
          have zT2 := KT2.out.cell 0
          simp only [List.getElem?_toArray, List.getElem?_cons_zero] at zT2
          have hw5 : IntKind.i64.wrap ((j : Int) + 1) = (j : Int) + 1 := by rw [i64_w]; unfold wrap64; omega
          have hki : (j : Int) < (K : Int) + 1 := by omega
          have hki4 : (0 : Int) ≤ (j : Int) := by omega
          have hki5 : j < K + 1 := by omega
          have hki1 : (j : Int) + 1 < (K : Int) + 1 := by omega
          have hki2 : (0 : Int) ≤ (j : Int) + 1 := by omega
          have hki3 : ((j : Int) + 1).toNat = j + 1 := by omega
          have hcut : ∀ w : World, (Instr.slice 26 (.slice (some ad) (m + 1) c0) (some (.int .i64 (a : Int))) (some (.int .i64 (b : Int))) (some (.int .i64 (b : Int)))).run Try.prog w = .ok (cutV ad a b) w := fun w => by
            have hel : Try.prog.elem 26 = 41 := by simp [Program.elem, Try.underlying26]
            obtain ⟨i0, hi, hz0, hz1, hz2⟩ := info_parts info41
            rw [run_slice_lhm w 26 (some ad) (m + 1) c0 (by rw [hel]; exact Try.underlying26) .i64 .i64 .i64 (a : Int) (b : Int) (b : Int) (by omega) (by omega) (by omega) (by omega), hel]
            simp [sizeOf, typeInfo, hi, hz1, sliced, Result.andThen, cutV]
          have hj1 : J ((kidY ad es K).take j) wr.drew := HJ.out _ _ _ HJP.out ((Turn.refl _ _ _).drew)
          have hnx := kidY_take ad es K j hlt
          rw [show es.getD j 0 = a by rw [List.getD_eq_getElem?_getD, List.getElem?_eq_getElem hk, ha]; rfl, show es.getD (j + 1) 0 = b by rw [List.getD_eq_getElem?_getD, List.getElem?_eq_getElem hk1, hb]; rfl] at hnx
          obtain ⟨fn, tmps, assign, body, hy, hR⟩ := HY.out ((kidY ad es K).take j) ((j : Int), cutV ad a b) wr.drew hj1 (by rw [← hnx]; exact List.take_prefix _ _)
          have HR := Aside0.mk hR
          have HNX := Aside0.mk hnx
          clear hR hj1 hnx hrd1 hrd2 ha hb
          go_wp2
          refine (wpIn_wide (n := nn)).1 ?_
          refine T.wpIn_region_still_tail 18 (by kernel_rfl) (by kernel_rfl) ?_
          simp only [List.take_succ_cons, List.take_zero, List.drop_succ_cons, List.drop_zero]
          repeat still_step
          try refine wpStill_nil ?_
          change wpListIn _ _ _ _ _ _ _ wr.drew
          have hrun : (Instr.yield l #[.int .i64 (j : Int), cutV ad a b]).run Try.prog wr.drew = .ok (.round l fn tmps assign body) wr.drew := hy
          gi_wp2
          refine ⟨fun h => by simp [Fence.wide] at h, HR.out.mono ?_⟩
          rintro e W' (⟨rfl, h1, h2⟩ | ⟨rfl, h1⟩)
          · have H1 := Aside0.mk h1
            have H2 := Aside0.mk h2
            clear h1 h2
            gi_wp2
            try go_wp2
            go_roundw
            case rel =>
              refine ⟨j + 1, by go_num, by omega, ⟨?_⟩, ⟨?_⟩, ⟨by rw [HNX.out]; exact H1.out⟩⟩
              · exact H2.out.own HO2.out.drew (fun cs fr h => by rcases h with h | ⟨_, _, _, h, ht⟩ | ⟨_, _, h, _⟩ <;> cases h; simp at ht)
              · exact KT2.out.drew.turn H2.out (fun h => by
                  rcases h with h | ⟨_, _, _, h, ht⟩ | ⟨_, _, h, hne⟩
                  · cases h
                  · cases h; simp at ht
                  · cases h; exact hne (by rw [HN.out]))
            case measure => simp [intOf]; omega
          · have H1 := Aside0.mk h1
            clear h1
            gi_wp2
            try go_wp2
            refine bodyPost_ret (results_none rfl _ _ _) rfl ?_
            exact ⟨⟨_, rfl⟩, .inr ⟨_, by rw [← HNX.out]; exact List.take_prefix _ _, H1.out⟩⟩
        · obtain rfl : j = K := by omega
          go_wp2
          go_end0
          refine ⟨⟨_, rfl⟩, .inl ?_⟩
          have := HJP.out
          rw [List.take_of_length_le (by simp [kidY])] at this
          exact this
end Go.Proofs.Ytoioineibfldcaa.K
end

section
/-
  impl.copied (function 47) hands back a new row with the elements of the one that came in. Condition: at most 2932031007402 elements (the model's bound on what an append makes).
-/
set_option linter.unusedVariables false
namespace Go.Proofs.Ytoioineibfldcaa.K
open Go.RowKit Go.Proofs.YtoioineibfldcaaW.PrintWords Go.Proofs.YtoioineibfldcaaW.PrintLast Go.Proofs.YtoioineibfldcaaW.PrintMore

def impl_copied.f (l0 : List S41) : Option (List S41) := if l0.length ≤ 2932031007402 then some l0 else none

theorem k41_M {w w' : World} {base : Nat} {ok : Nat → Prop} {x : S41} {cs : List Value} (h : k41.K w x cs) : k41.M w' base ok x cs := by
  obtain rfl := k41_open h
  exact k41_mkM _ _ _ x

set_option maxHeartbeats 1000000 in
theorem impl_copied.calls (A0 : Option Addr) (c0 : Nat) (l0 : List S41) (r : List S41) (w : World) (hr0 : Kd.C k41 w A0 l0.length l0) (hc0 : l0.length ≤ c0) (h : impl_copied.f l0 = some r) :
    Calls Try.prog 47 #[.slice A0 l0.length c0] w fun e w' => ∃ v0_ : Value, e = .returned v0_ ∧ Kd.R k41 41 w' w.heap.size (fun _ => True) v0_ r ∧ Below w.heap.size w w' := by
  unfold impl_copied.f at h
  by_cases hl : l0.length ≤ 2932031007402
  · rw [if_pos hl] at h
    obtain rfl := Option.some.inj h
    clear h
    have HR := Aside0.mk hr0
    have HL := Aside0.mk hl
    clear hr0 hl hc0
    go_enter Try.func47, Try.ntmps47
    go_wp2_with (at_builtin; refine Kd.R_append_rows k41 (w0 := w) (Rr := k41.K w) w.heap.size rfl (.const (.slice none 0 0)) (.tmp 3) 26 41 _ 48 rfl Try.underlying26 info41 rfl (by decide) (by omega) (.slice none 0 0) [] l0 _ _ _ (fun _ => True) (fun _ => False) rfl rfl (Kd.R_nil _ _ _ _ _) HR.out (fun _ _ hk => k41_M hk) (fun _ hk => hk.elim) (fun _ _ => trivial) (Below.refl _ _) (Nat.le_refl _) (by have := HL.out; simp only [List.length_nil]; omega) ?_; intro v1 w1 ho hb hg hat; have HO := Aside0.mk ho; have HB := Aside0.mk hb; clear ho hb hg hat)
    go_ret
    exact ⟨_, rfl, by simpa using HO.out, HB.out⟩
  · rw [if_neg hl] at h
    cases h
end Go.Proofs.Ytoioineibfldcaa.K
end

section
/-
  A row of rows of nodes (type [][]ml.Node) that the call made: the inner rows lie apart. What may be done with it: read, kept, one row exchanged, one row more. No condition.
-/
set_option linter.unusedVariables false
namespace Go.Proofs.Ytoioineibfldcaa.K
open Go.RowKit Go.Proofs.YtoioineibfldcaaW.PrintWords Go.Proofs.YtoioineibfldcaaW.PrintLast Go.Proofs.YtoioineibfldcaaW.PrintMore

/-- One node row of one's own; it leads to nothing else. -/
abbrev NR (w : World) (base : Nat) (u : Value) (l : List S41) : Prop := Kd.R k41 41 w base (fun _ => True) u l
abbrev kL : Kd (List S41) := Kd.slice 41 k41
def RR (w : World) (base : Nat) (v : Value) (ls : List (List S41)) : Prop :=
  ∃ vs : List Value, vs.length = ls.length ∧ w.ownsRow base 26 1 v ls.length vs ∧ (∀ (j : Nat) u l, vs[j]? = some u → ls[j]? = some l → NR w base u l) ∧
    (∀ (i j : Nat) u u', i ≠ j → vs[i]? = some u → vs[j]? = some u' → ∀ k, u.ownBlock = some k → u'.ownBlock ≠ some k)
section
variable {w w1 : World} {base : Nat} {v u u' : Value} {l l' : List S41} {ls : List (List S41)}
theorem NR_tight (h : NR w base u l) : Kd.R k41 41 w base (fun k => some k = u.ownBlock) u l := Kd.R_tight rfl h
theorem NR_keep (h : NR w base u l) (hm : ∀ k, u.ownBlock = some k → w1.heap[k]? = w.heap[k]?) : NR w1 base u l :=
  Kd.R_mono (Kd.R_move (NR_tight h) (fun k hk => hm k hk.symm)) (fun _ _ => trivial)
theorem NR_blk (h : NR w base u l) (k : Nat) (hk : u.ownBlock = some k) : base ≤ k ∧ k < w.heap.size ∧ ∃ cells, w.heap[k]? = some (.cells cells 41 (0, 0)) := by
  obtain ⟨inner, ho⟩ := Kd.R_own h
  exact ⟨own_base ho k hk, own_lt ho k hk, own_typed ho k hk⟩
theorem own_keep {e : TypeId} {size n : Nat} {xs : List Value} (h : w.ownsRow base e size v n xs) (hm : ∀ k, v.ownBlock = some k → w1.heap[k]? = w.heap[k]?) : w1.ownsRow base e size v n xs := own_move h hm
theorem RR.nil (w : World) (base : Nat) : RR w base (.slice none 0 0) [] := ⟨[], rfl, World.ownsRow_nil _ _ _ _, by simp, by simp⟩
theorem RR.blocks (h : RR w base v ls) : ∀ k, v.ownBlock = some k → base ≤ k ∧ k < w.heap.size ∧ ∃ cells, w.heap[k]? = some (.cells cells 26 (0, 0)) := by
  obtain ⟨vs, _, ho, _⟩ := h
  exact fun k hk => ⟨own_base ho k hk, own_lt ho k hk, own_typed ho k hk⟩
/-- What keeps every block of the types 26 and 41 from base on keeps the row. -/
theorem RR.keep (h : RR w base v ls) (hm : ∀ k cells e, base ≤ k → w.heap[k]? = some (.cells cells e (0, 0)) → (e = 26 ∨ e = 41) → w1.heap[k]? = w.heap[k]?) : RR w1 base v ls := by
  obtain ⟨vs, h1, ho, hr, hd⟩ := h
  refine ⟨vs, h1, own_keep ho (fun k hk => ?_), fun j u l hu hl => NR_keep (hr j u l hu hl) (fun k hk => ?_), hd⟩
  · obtain ⟨cells, hc⟩ := own_typed ho k hk
    exact hm k _ _ (own_base ho k hk) hc (.inl rfl)
  · obtain ⟨hb, _, cells, hc⟩ := NR_blk (hr j u l hu hl) k hk
    exact hm k _ _ hb hc (.inr rfl)
theorem RR.below (h : RR w base v ls) (hb : Below w.heap.size w w1) : RR w1 base v ls :=
  h.keep (fun k cells e _ hc _ => hb.block k (Array.getElem?_eq_some_iff.1 hc).1)
theorem RR.lower {base' : Nat} (h : RR w base v ls) (hb : base' ≤ base) : RR w base' v ls := by
  obtain ⟨vs, h1, ho, hr, hd⟩ := h
  exact ⟨vs, h1, own_weaken ho hb, fun j u l hu hl => Kd.R_lower (hr j u l hu hl) hb, hd⟩
theorem RR.slice (h : RR w base v ls) : ∃ A c, v = .slice A ls.length c ∧ ls.length ≤ c := by
  obtain ⟨vs, h1, ho, _⟩ := h
  obtain ⟨A, c, rfl⟩ := own_slice ho
  exact ⟨A, c, rfl, own_le ho⟩
theorem RR.form (h : RR w base v ls) (hp : 0 < ls.length) : ∃ g c, v = .slice (some ⟨g, 0, none⟩) ls.length c ∧ ls.length ≤ c ∧ base ≤ g ∧ g < w.heap.size := by
  obtain ⟨vs, h1, ho, _⟩ := h
  rcases ho.2 with ⟨_, h0⟩ | ⟨g, cap, cur, rfl, hb, hg, hc, _⟩
  · omega
  · exact ⟨g, cap, rfl, hc, hb, (Array.getElem?_eq_some_iff.1 hg).1⟩
theorem RR.reads (h : RR w base v ls) : ∃ A c, v = .slice A ls.length c ∧ ls.length ≤ c ∧ Kd.C kL w A ls.length ls := by
  obtain ⟨vs, h1, ho, hr, hd⟩ := h
  obtain ⟨A, c, rfl⟩ := own_slice ho
  refine ⟨A, c, rfl, own_le ho, ?_⟩
  have hR : Kd.R kL 26 w base (fun _ => True) (.slice A ls.length c) ls := by
    refine ⟨fun _ _ => trivial, vs, ho, by rw [h1, show kL.sz = 1 from rfl, Nat.mul_one], fun j l hj => ?_⟩
    have hjl : j < vs.length := by rw [h1]; exact (List.getElem?_eq_some_iff.1 hj).1
    have hvj : vs[j]? = some vs[j] := List.getElem?_eq_getElem hjl
    refine ⟨vs[j], ?_, ?_⟩
    · rw [show kL.sz = 1 from rfl, Nat.mul_one, List.drop_eq_getElem_cons hjl, List.take_succ_cons, List.take_zero]
    · refine Kd.R_mono (NR_tight (hr j _ l hvj hj)) (fun k hk => ⟨trivial, ?_⟩)
      intro he
      obtain ⟨_, _, c1, hc1⟩ := NR_blk (hr j _ l hvj hj) k hk.symm
      obtain ⟨c2, hc2⟩ := own_typed ho k he.symm
      rw [hc1] at hc2
      injection hc2 with hc2
      injection hc2 with _ hc2
      cases hc2
  exact (Kd.R_reads' hR).2.2
/-- Row j: where it lies, what it is. -/
theorem RR.get (h : RR w base v ls) {j : Nat} {l : List S41} (hj : ls[j]? = some l) : ∃ g c u, v = .slice (some ⟨g, 0, none⟩) ls.length c ∧ w.cell? ⟨g, j, none⟩ = some u ∧ NR w base u l := by
  have hjl := (List.getElem?_eq_some_iff.1 hj).1
  obtain ⟨g, c, rfl, _⟩ := h.form (by omega)
  obtain ⟨vs, h1, ho, hr, hd⟩ := h
  refine ⟨g, c, vs[j]'(by omega), rfl, ?_, hr j _ l (List.getElem?_eq_getElem _) hj⟩
  rw [ho.cellAt j (by omega)]
  exact List.getElem?_eq_getElem _
theorem RR.frozen {g n c : Nat} (h : RR w base (.slice (some ⟨g, 0, none⟩) n c) ls) (j : Nat) : w.frozen? ⟨g, j, none⟩ = false := by
  obtain ⟨vs, h1, ho, hr, hd⟩ := h
  obtain ⟨A, c', he⟩ := own_slice ho
  cases he
  exact ho.frozenAt j
theorem RR.cell {g c j : Nat} (h : RR w base (.slice (some ⟨g, 0, none⟩) ls.length c) ls) (hj : j < ls.length) : ∃ u, w.cell? ⟨g, j, none⟩ = some u ∧ NR w base u ls[j] := by
  obtain ⟨g', c', u, he, h1, h2⟩ := h.get (List.getElem?_eq_getElem hj)
  cases he
  exact ⟨u, h1, h2⟩
/-- Row j has been turned where it lies: all blocks but its own are as they were. -/
theorem RR.turn {g c j : Nat} (h : RR w base (.slice (some ⟨g, 0, none⟩) ls.length c) ls) (hj : j < ls.length) (hu : w.cell? ⟨g, j, none⟩ = some u) (hk : Kept w w1 (fun k => some k = u.ownBlock)) (hn : NR w1 base u l') :
    RR w1 base (.slice (some ⟨g, 0, none⟩) ls.length c) (ls.set j l') := by
  obtain ⟨vs, h1, ho, hr, hd⟩ := h
  have hvj : vs[j]? = some u := by rw [← hu, ho.cellAt j (by omega)]
  have hlj : ls[j]? = some ls[j] := List.getElem?_eq_getElem hj
  have hold := hr j u _ hvj hlj
  refine ⟨vs, by rw [List.length_set]; exact h1, ?_, fun i ui li hi hli => ?_, hd⟩
  · rw [List.length_set]
    refine own_keep ho (fun k hkk => hk.2 k (own_lt ho k hkk) (fun he => ?_))
    obtain ⟨_, _, c1, hc1⟩ := NR_blk hold k he.symm
    obtain ⟨c2, hc2⟩ := own_typed ho k hkk
    rw [hc1] at hc2
    injection hc2 with hc2
    injection hc2 with _ hc2
    cases hc2
  · by_cases hij : j = i
    · subst hij
      rw [hvj] at hi
      cases hi
      rw [List.getElem?_set_self hj] at hli
      cases hli
      exact hn
    · rw [List.getElem?_set_ne hij] at hli
      have := hr i ui li hi hli
      refine NR_keep this (fun k hkk => hk.2 k (NR_blk this k hkk).2.1 (fun he => ?_))
      exact hd i j ui u (fun e => hij e.symm) hi hvj k hkk he.symm
/-- A new row is stored at j. -/
theorem RR.store {g c j : Nat} (h : RR w base (.slice (some ⟨g, 0, none⟩) ls.length c) ls) (hj : j < ls.length) (hn : NR w base u l') (hf : ∀ k, u.ownBlock = some k → ∀ (i : Nat) u', i ≠ j → i < ls.length → w.cell? ⟨g, i, none⟩ = some u' → u'.ownBlock ≠ some k) :
    RR (w.setCell ⟨g, j, none⟩ u) base (.slice (some ⟨g, 0, none⟩) ls.length c) (ls.set j l') := by
  obtain ⟨vs, h1, ho, hr, hd⟩ := h
  obtain ⟨hs1, hs2⟩ := ho.stored j u
  have hgt : ∃ cells, w.heap[g]? = some (.cells cells 26 (0, 0)) := own_typed ho g (by simp [Value.ownBlock])
  obtain ⟨cg, hcg⟩ := hgt
  have keepN : ∀ {ui : Value} {li : List S41}, NR w base ui li → NR (w.setCell ⟨g, j, none⟩ u) base ui li := fun hni =>
    NR_keep hni (fun k hk => Below.heap_setCell _ _ _ _ (fun e => by
      simp only at e
      subst e
      obtain ⟨_, _, c1, hc1⟩ := NR_blk hni _ hk
      rw [hcg] at hc1
      injection hc1 with hc1
      injection hc1 with _ hc1
      cases hc1))
  have cellv : ∀ (i : Nat) ui, i ≠ j → vs[i]? = some ui → w.cell? ⟨g, i, none⟩ = some ui := fun i ui _ hi => by
    have := (List.getElem?_eq_some_iff.1 hi).1
    rw [ho.cellAt i (by omega), hi]
  refine ⟨vs.set j u, by simpa using h1, by rw [List.length_set]; exact hs1, fun i ui li hi hli => ?_, fun i i' ui ui' hne hi hi' k hk => ?_⟩
  · by_cases hij : j = i
    · subst hij
      rw [List.getElem?_set_self (by omega)] at hi
      rw [List.getElem?_set_self hj] at hli
      cases hi; cases hli
      exact keepN hn
    · rw [List.getElem?_set_ne hij] at hi hli
      exact keepN (hr i ui li hi hli)
  · by_cases hij : j = i
    · subst hij
      rw [List.getElem?_set_self (by omega)] at hi
      rw [List.getElem?_set_ne hne] at hi'
      cases hi
      exact hf k hk i' ui' (fun e => hne e.symm) (by have := (List.getElem?_eq_some_iff.1 hi').1; omega) (cellv i' ui' (fun e => hne e.symm) hi')
    · rw [List.getElem?_set_ne hij] at hi
      by_cases hij' : j = i'
      · subst hij'
        rw [List.getElem?_set_self (by omega)] at hi'
        cases hi'
        intro he
        exact hf k he i ui hne (by have := (List.getElem?_eq_some_iff.1 hi).1; omega) (cellv i ui hne hi) hk
      · rw [List.getElem?_set_ne hij'] at hi'
        exact hd i i' ui ui' hne hi hi' k hk
/-- A new row is hung on: behind the append. -/
theorem RR.snoc {v1 : Value} {vs0 : List Value} (h : RR w base v ls) (hn : NR w base u l) (hf : ∀ (i : Nat) u', ∀ vs : List Value, w.ownsRow base 26 1 v ls.length vs → vs[i]? = some u' → ∀ k, u.ownBlock = some k → u'.ownBlock ≠ some k)
    (ho1 : ∀ vs, w.ownsRow base 26 1 v ls.length vs → w1.ownsRow base 26 1 v1 (ls.length + 1) (vs ++ [u])) (hg : w.grownBy w1 v.ownBlock) : RR w1 base v1 (ls ++ [l]) := by
  obtain ⟨vs, h1, ho, hr, hd⟩ := h
  have keepN : ∀ {ui : Value} {li : List S41}, NR w base ui li → NR w1 base ui li := fun hni =>
    NR_keep hni (fun k hk => hg.block k (NR_blk hni k hk).2.1 (fun e => by
      obtain ⟨_, _, c1, hc1⟩ := NR_blk hni _ hk
      obtain ⟨c2, hc2⟩ := own_typed ho k e.symm
      rw [hc1] at hc2
      injection hc2 with hc2
      injection hc2 with _ hc2
      cases hc2))
  have hlen : ∀ {i : Nat} {x : Value}, (vs ++ [u])[i]? = some x → i < vs.length ∧ vs[i]? = some x ∨ i = vs.length ∧ x = u := fun {i x} hi => by
    by_cases hil : i < vs.length
    · rw [List.getElem?_append_left hil] at hi; exact .inl ⟨hil, hi⟩
    · rw [List.getElem?_append_right (by omega)] at hi
      have := (List.getElem?_eq_some_iff.1 hi).1
      simp at this
      have hil' : i = vs.length := by omega
      subst hil'
      simp at hi
      exact .inr ⟨rfl, hi.symm⟩
  refine ⟨vs ++ [u], by simp [h1], by rw [List.length_append, List.length_singleton]; exact ho1 vs ho, fun i ui li hi hli => ?_, fun i i' ui ui' hne hi hi' k hk => ?_⟩
  · rcases hlen hi with ⟨hil, hi⟩ | ⟨hil, rfl⟩
    · rw [List.getElem?_append_left (by omega)] at hli
      exact keepN (hr i ui li hi hli)
    · rw [List.getElem?_append_right (by omega)] at hli
      subst hil
      rw [h1, Nat.sub_self] at hli
      cases hli
      exact keepN hn
  · rcases hlen hi with ⟨hil, hi2⟩ | ⟨hil, hi2⟩ <;> rcases hlen hi' with ⟨hil', hi3⟩ | ⟨hil', hi3⟩
    · exact hd i i' ui ui' hne hi2 hi3 k hk
    · subst hi3
      intro he
      exact hf i ui vs ho hi2 k he hk
    · subst hi2
      exact hf i' ui' vs ho hi3 k hk
    · omega
end
end Go.Proofs.Ytoioineibfldcaa.K
end

section
/-
  impl.heights's function literal (function 58), for every list of nodes that reads: it yields what 'hts' says of the kid counts, and between two rounds it writes only blocks of its own (a stack, copies of nodes). Condition: at most 2932031007402 nodes.
-/
set_option linter.unusedVariables false
namespace Go.Proofs.Ytoioineibfldcaa.K
open Go.RowKit Go.Proofs.YtoioineibfldcaaW.PrintWords Go.Proofs.YtoioineibfldcaaW.PrintLast Go.Proofs.YtoioineibfldcaaW.PrintMore
open Go.Proofs.Ytoioineibfldcaa.T
attribute [local go_sem] max2_int min2_int max_two min_two max_three min_three max_four min_four
set_option maxRecDepth 100000
set_option maxHeartbeats 2000000

abbrev kP : Kd (Int × Int) := Kd.pair (Kd.int .i64) (Kd.int .i64)
theorem info76 : (Try.prog.info? 76).map (fun i => (i.zero, i.size, i.bytes)) = some (some (.agg #[.int .i64 0, .int .i64 0]), 2, 16) := by kernel_rfl

theorem cut_stack (A : Option Addr) (c : Nat) (st : List (Int × Int)) (k : Nat) (hk : k ≤ st.length) (hc : st.length ≤ c) :
    ∃ A' c', (∀ W : World, (Instr.slice 74 (.slice A st.length c) (some (.int .i64 ((st.length : Int) - (k : Int)))) none none).run Try.prog W = .ok (.slice A' k c') W) ∧
      (∀ w : World, Kd.C kP w A st.length st → Kd.C kP w A' k (st.drop (st.length - k))) := by
  obtain ⟨i0, hi, hz0, hz1, hz2⟩ := info_parts info76
  have h := cut_from (P := Try.prog) 74 76 .i64 Try.underlying74 hi 2 hz1 A st.length c ((st.length : Int) - (k : Int)) (by omega) (by omega)
  have e1 : ((st.length : Int) - (k : Int)).toNat = st.length - k := by omega
  have e2 : st.length - (st.length - k) = k := by omega
  rw [e1, e2] at h
  refine ⟨_, _, h, fun w hr => ?_⟩
  have := Kd.C_drop (k := kP) (c := c) (m := st.length - k) hr (by omega) hc
  rwa [List.length_drop, e2] at this

theorem heights1 (n : Nat) (A : Option Addr) (c0 : Nat) (l0 : List S41) (w0 w : World) (Bt : Nat) (hbig : l0.length ≤ 2932031007402) (hr0 : Kd.C k41 w0 A l0.length l0) (hb0 : Below w0.heap.size w0 w) (hBt : Blk w Bt 26 #[.slice A l0.length c0]) :
    SeqT Fence.wide n Try.prog 58 #[.pointer (some ⟨Bt, 0, none⟩)] encsH MiH MrH w0.heap.size (hts [] 0 (l0.map (·.f3))) w := by
  intro l J Jx W hW hJ hJx hY h0
  refine callsIn_wide.2 ?_
  have hBt' : W.cell? ⟨Bt, 0, none⟩ = some (.slice A l0.length c0) := ((hW.cell (p := ⟨Bt, 0, none⟩) hBt.lt).trans (hBt.cell 0))
  have H0 := Aside0.mk h0
  have HY := Aside0.mk hY
  have HJ := Aside0.mk hJ
  have HJx := Aside0.mk hJx
  have HR0 := Aside0.mk hr0
  have HW := Aside0.mk hW
  have HB0 := Aside0.mk hb0
  clear h0 hY hJ hJx hr0 hb0 hW hBt
  go_enter Try.func58, Try.ntmps58
  go_wp2
  go_loopw [3, 11] (fun v3 v11 wr => ∃ (pre st : List (Int × Int)) (i : Nat), v11 = .int .i64 i ∧ i ≤ l0.length ∧ Aside0 (hts [] 0 (l0.map (·.f3)) = pre ++ hts st i ((l0.map (·.f3)).drop i)) ∧ Aside0 (Kd.R kP 76 wr W.heap.size (fun _ => True) v3 st) ∧ Aside0 (J pre wr) ∧ Aside0 (Below w0.heap.size w0 wr) ∧ W.heap.size ≤ wr.heap.size ∧ Aside0 (∀ e ∈ st, 1 ≤ e.1 ∧ e.1 ≤ i ∧ 0 ≤ e.2 ∧ e.2 < i) ∧ st.length ≤ i)
    (fun _ i _ => l0.length - (intOf i).toNat)
  case atStart => exact ⟨[], [], 0, rfl, Nat.zero_le _, ⟨rfl⟩, ⟨Kd.R_nil _ _ _ _ _⟩, H0, ⟨HB0.out.trans (HW.out.mono HB0.out.size)⟩, Nat.le_refl _, ⟨by simp⟩, Nat.zero_le _⟩
  case round =>
    obtain ⟨pre, st, i, rfl, hi, HEQ, HST, HJP, HB, HBW, HBD, hsl⟩ := hrel
    obtain ⟨wo, rfl⟩ : ∃ wo : World, wo = wr := ⟨_, rfl⟩
    by_cases hlt : i < l0.length
    · obtain ⟨ad, hA, hx0, hx1, hx2, hx3, hx4⟩ := at_T41 HR0.out (i : Int) (by omega) (by omega)
      subst hA
      replace hx0 := (HB.out.cell (World.block_lt_of_cell? w0 _ hx0)).trans hx0
      replace hx1 := (HB.out.cell (World.block_lt_of_cell? w0 _ hx1)).trans hx1
      replace hx2 := (HB.out.cell (World.block_lt_of_cell? w0 _ hx2)).trans hx2
      replace hx3 := (HB.out.cell (World.block_lt_of_cell? w0 _ hx3)).trans hx3
      replace hx4 := (HB.out.cell (World.block_lt_of_cell? w0 _ hx4)).trans hx4
      rw [Int.toNat_natCast] at hx0 hx1 hx2 hx3 hx4
      obtain ⟨nd, hnd⟩ : ∃ nd, rd_T41 l0 (i : Int) = nd := ⟨_, rfl⟩
      rw [hnd] at hx0 hx1 hx2 hx3 hx4
      have HND := Aside0.mk hnd
      clear hnd
      obtain ⟨A3, c3, e3, h3⟩ : ∃ A3 c3, u3 = .slice A3 st.length c3 ∧ st.length ≤ c3 := by
        obtain ⟨A3, c3, e3, h3, _⟩ := Kd.R_reads HST.out
        exact ⟨A3, c3, e3, h3⟩
      subst e3
      by_cases hn0 : nd.f3 < 0 ∨ (st.length : Int) < nd.f3
      · have hY0 : hts [] 0 (l0.map (·.f3)) = pre ++ [(-1, -1)] := by
          rw [HEQ.out, drop_f3 l0 i hlt, HND.out, hts_bad _ _ _ _ hn0]
        have HY0 := Aside0.mk hY0
        clear hY0
        have hj1 : J pre (wo.alloc (Obj.cells #[Value.int IntKind.i64 nd.f0, Value.int IntKind.i64 nd.f1, Value.string nd.f2, Value.int IntKind.i64 nd.f3, Value.int IntKind.i64 nd.f4] 41)) := HJ.out _ _ _ HJP.out ((Turn.refl _ _ _).alloc _)
        obtain ⟨fn, tmps, assign, body, hy, hR⟩ := HY.out pre (-1, -1) _ hj1 (by rw [HY0.out]; exact List.prefix_refl _)
        clear hj1
        have HR := Aside0.mk hR
        clear hR
        by_cases hn1 : nd.f3 < 0
        all_goals
          first | (have hn2 : (st.length : Int) < nd.f3 := by rcases hn0 with h | h; exact absurd h hn1; exact h) | skip
          clear hn0
          go_upto_region 5 with (fail)
          refine (wpIn_wide (n := n)).1 ?_
          gi_wp2
          refine ⟨fun h => by simp [Fence.wide] at h, HR.out.mono ?_⟩
          rintro e W' (⟨rfl, h1, h2⟩ | ⟨rfl, h1⟩)
          · have H1 := Aside0.mk h1
            clear h1 h2
            gi_wp2
            try go_wp2
            refine bodyPost_ret (results_none rfl _ _ _) rfl ?_
            exact ⟨⟨_, rfl⟩, .inl (by rw [HY0.out]; exact H1.out)⟩
          · have H1 := Aside0.mk h1
            clear h1
            gi_wp2
            try go_wp2
            refine bodyPost_ret (results_none rfl _ _ _) rfl ?_
            exact ⟨⟨_, rfl⟩, .inr ⟨_, by rw [HY0.out]; exact List.prefix_refl _, H1.out⟩⟩
      · obtain ⟨kn, hkn⟩ : ∃ kn : Nat, nd.f3 = kn := ⟨nd.f3.toNat, by omega⟩
        rw [hkn] at hx3
        have hk0 : ¬ ((kn : Int) < 0) := by omega
        have hk1 : kn ≤ st.length := by omega
        have hk2 : ¬ (st.length < kn) := by omega
        have HKN := Aside0.mk hkn
        clear hn0 hkn
        obtain ⟨A', c', hcut, hrd⟩ := cut_stack A3 c3 st kn hk1 h3
        have HRD := Aside0.mk hrd
        clear hrd
        go_upto_region 8 with (fail)
        go_loopw [38] (fun v38 w2 => ∃ (j : Nat) (d f : Int), v38 = .int .i64 j ∧ j ≤ kn ∧ Aside0 ((d, f) = foldKids (1, (i : Int)) ((st.drop (st.length - kn)).take j)) ∧ 1 ≤ d ∧ d ≤ i + 1 ∧ wo.heap.size + 1 < w2.heap.size ∧ Aside0 (Blk w2 wo.heap.size 41 #[Value.int IntKind.i64 nd.f0, Value.int IntKind.i64 nd.f1, Value.string nd.f2, Value.int IntKind.i64 kn, Value.int IntKind.i64 nd.f4]) ∧ Aside0 (Blk w2 (wo.heap.size + 1) 76 #[Value.int IntKind.i64 d, Value.int IntKind.i64 f]) ∧ Aside0 (Turn MiH W.heap.size wo w2) ∧ Aside0 (Kd.R kP 76 w2 W.heap.size (fun k => k < wo.heap.size) (.slice A3 st.length c3) st))
          (fun j _ => kn - (intOf j).toNat)
        case atStart =>
          refine ⟨0, 1, i, rfl, Nat.zero_le _, ⟨rfl⟩, by omega, by omega, by simp, ⟨(Blk.new wo 41 _).alloc _⟩, ⟨?_⟩, ⟨((Turn.refl _ _ _).alloc _).alloc _⟩, ⟨Kd.R_alloc (Kd.R_alloc (Kd.R_mono (Kd.R_bound HST.out) (fun k hk => hk.2.2.1)) _) _⟩⟩
          have := Blk.new (wo.alloc (Obj.cells #[Value.int IntKind.i64 nd.f0, Value.int IntKind.i64 nd.f1, Value.string nd.f2, Value.int IntKind.i64 kn, Value.int IntKind.i64 nd.f4] 41)) 76 #[Value.int IntKind.i64 1, Value.int IntKind.i64 i]
          rwa [World.size_alloc] at this
        case round =>
          obtain ⟨j, d, f, rfl, hj, HF, hd1, hd2, hsz, HB5, HB6, HT, HS2⟩ := hrel
          by_cases hjl : j < kn
          · have hC := HRD.out wr (Kd.R_reads' HS2.out).2.2
            obtain ⟨ad', cs, hA', _, hK, hc⟩ := Kd.C_get hC ((0, 0) : Int × Int) (j : Int) (by omega) (by omega)
            subst hA'
            obtain ⟨kid, hkid⟩ : ∃ kid, (st.drop (st.length - kn)).getD (j : Int).toNat ((0, 0) : Int × Int) = kid := ⟨_, rfl⟩
            rw [hkid] at hK
            obtain rfl : cs = [.int .i64 kid.1, .int .i64 kid.2] := by
              obtain ⟨_, _, rfl, rfl, rfl⟩ := hK
              rfl
            have hy0 := hc 0 _ rfl
            have hy1 := hc 1 _ rfl
            rw [Nat.add_zero, Int.toNat_natCast] at hy0
            rw [add_field _ _ 1 (by omega), Int.toNat_natCast] at hy1
            rw [show kP.sz = 2 from rfl] at hy0 hy1
            have HKID := Aside0.mk hkid
            clear hkid hK hc hC
            have hz3 := HB5.out.cell 3
            have h60 := HB6.out.cell 0
            have h61 := HB6.out.cell 1
            have h6f0 := HB6.out.frozen 0
            have h6f1 := HB6.out.frozen 1
            simp only [List.getElem?_toArray, List.getElem?_cons_zero, List.getElem?_cons_succ] at h60 h61 hz3
            have hkb : 1 ≤ kid.1 ∧ kid.1 ≤ i ∧ 0 ≤ kid.2 ∧ kid.2 < i := by
              refine HBD.out kid (List.mem_of_mem_drop (i := st.length - kn) ?_)
              rw [← HKID.out, Int.toNat_natCast, List.getD_eq_getElem?_getD, List.getElem?_eq_getElem (by rw [List.length_drop]; omega)]
              exact List.getElem_mem _
            obtain ⟨hkb1, hkb2, hkb3, hkb4⟩ := hkb
            have HW6 : W.heap.size ≤ wo.heap.size + 1 := Nat.le_succ_of_le HBW
            have hfold : foldKids (1, (i : Int)) ((st.drop (st.length - kn)).take (j + 1)) = foldKid (d, f) kid (j == 0) := by
              rw [foldKids_take _ _ _ (by rw [List.length_drop]; omega), HF.out, ← HKID.out, Int.toNat_natCast]
            have HFOLD := Aside0.mk hfold
            clear hfold
            have hM : MiH (.cells #[Value.int IntKind.i64 d, Value.int IntKind.i64 f] 76 (0, 0)) := ⟨_, _, _, rfl, by simp⟩
            have hM' : MiH (.cells (#[Value.int IntKind.i64 d, Value.int IntKind.i64 f].setIfInBounds 1 (Value.int IntKind.i64 kid.2)) 76 (0, 0)) := ⟨_, _, _, rfl, by simp⟩
            by_cases hj0 : j = 0
            · have hjb : ((j : Int) == 0) = true := by simp [hj0]
              have HJ0 := Aside0.mk hj0
              clear hj0
              go_wp2
              go_roundw
              case rel =>
                refine ⟨j + 1, if d < kid.1 + 1 then kid.1 + 1 else d, kid.2, by go_num, by omega, ⟨?_⟩, by split <;> omega, by split <;> omega, by simp; omega, ⟨?_⟩, ⟨?_⟩, ⟨?_⟩, ⟨?_⟩⟩
                · rw [HFOLD.out]; simp [foldKid, HJ0.out]
                · exact ((HB5.out.far (p := ⟨wo.heap.size + 1, 1, none⟩) (by simp) _).far (p := ⟨wo.heap.size + 1, 0, none⟩) (by simp) _).alloc _
                · exact ((HB6.out.set_ 1 _).set_ 0 _).alloc _
                · exact ((HT.out.setCell (p := ⟨wo.heap.size + 1, 1, none⟩) HW6 HB6.out hM _).setCell (p := ⟨wo.heap.size + 1, 0, none⟩) HW6 (HB6.out.set_ 1 _) hM' _).alloc _
                · exact Kd.R_alloc (Kd.R_far (p := ⟨wo.heap.size + 1, 0, none⟩) (Kd.R_far (p := ⟨wo.heap.size + 1, 1, none⟩) HS2.out (fun k hk => by simp; omega) _) (fun k hk => by simp; omega) _) _
              case measure => simp [intOf]; omega
            · have hjb : ((j : Int) == 0) = false := by simp; omega
              have HJ0 := Aside0.mk hj0
              clear hj0
              go_wp2
              go_roundw
              case rel =>
                refine ⟨j + 1, if d < kid.1 + 1 then kid.1 + 1 else d, f, by go_num, by omega, ⟨?_⟩, by split <;> omega, by split <;> omega, by simp; omega, ⟨?_⟩, ⟨?_⟩, ⟨?_⟩, ⟨?_⟩⟩
                · rw [HFOLD.out]; simp [foldKid, HJ0.out]
                · exact (HB5.out.far (p := ⟨wo.heap.size + 1, 0, none⟩) (by simp) _).alloc _
                · exact (HB6.out.set_ 0 _).alloc _
                · exact (HT.out.setCell (p := ⟨wo.heap.size + 1, 0, none⟩) HW6 HB6.out hM _).alloc _
                · exact Kd.R_alloc (Kd.R_far (p := ⟨wo.heap.size + 1, 0, none⟩) HS2.out (fun k hk => by simp; omega) _) _
              case measure => simp [intOf]; omega
          · obtain rfl : j = kn := by omega
            obtain ⟨m, hm⟩ : ∃ m, m = st.length - j := ⟨_, rfl⟩
            have hY0 : hts [] 0 (l0.map (·.f3)) = pre ++ (d, f) :: hts (st.take m ++ [(d, f)]) ((i : Int) + 1) ((l0.map (·.f3)).drop (i + 1)) := by
              have e1 : st.length - (rd_T41 l0 (i : Int)).f3.toNat = m := by rw [HND.out, HKN.out]; omega
              have e2 : foldKids (1, (i : Int)) (st.drop m) = (d, f) := by
                rw [HF.out, ← hm, List.take_of_length_le (by rw [List.length_drop]; omega)]
              rw [HEQ.out, drop_f3 l0 i hlt, hts_ok _ _ _ _ (by rw [HND.out, HKN.out]; omega), e1, e2]
            have HY0 := Aside0.mk hY0
            clear hY0
            have HNE := Aside0.mk (Kd.R_away (g := wo.heap.size + 1) (Kd.R_take (m := m) HS2.out (by omega)) (fun k hk => by omega))
            have HRW : Aside0 (∀ k, (Value.slice A3 m c3).ownBlock = some k → W.heap.size ≤ k ∧ ∃ o, wr.drew.heap[k]? = some o ∧ MiH o) := ⟨fun k hk => by
              have hr := Kd.R_take (m := m) HS2.out (by omega)
              obtain ⟨inner, ho⟩ := Kd.R_own hr
              obtain ⟨cells, hc⟩ := own_typed ho k hk
              exact ⟨own_base ho k hk, _, hc, _, _, _, rfl, by simp⟩⟩
            have hwr : IntKind.i64.wrap ((st.length : Int) - (j : Int)) = (m : Int) := by rw [i64_w]; unfold wrap64; omega
            have hmc : m ≤ c3 := by omega
            have HM := Aside0.mk hm
            have HO := Aside0.mk (Kd.R_mono (ok' := fun k => k < wo.heap.size ∨ wr.heap.size ≤ k) (Kd.R_take (m := m) HS2.out (by omega)) (fun k hk => .inl hk))
            have hz3 := HB5.out.cell 3
            have h60 := HB6.out.cell 0
            have h61 := HB6.out.cell 1
            simp only [List.getElem?_toArray, List.getElem?_cons_zero, List.getElem?_cons_succ] at h60 h61 hz3
            have hz3a := fun o => (HB5.out.alloc o).cell 3
            simp only [List.getElem?_toArray, List.getElem?_cons_zero, List.getElem?_cons_succ] at hz3a
            clear hm
            go_wp2
            go_region_law (refine Kd.R_append_step kP (w0 := wr.drew) (W := wr.drew) W.heap.size (by simp [Region.wanted]) (.tmp 62) (.tmp 64) 74 76 (.agg #[.int .i64 0, .int .i64 0]) 16 rfl Try.underlying74 info76 rfl (by decide) (by omega) (.slice A3 m c3) (st.take m) (d, f) [.int .i64 d, .int .i64 f] (fun k => k < wo.heap.size ∨ wr.heap.size ≤ k) (fun _ => False) rfl rfl ⟨_, _, rfl, rfl, rfl⟩ (fun _ h => h.elim) (fun k hk => .inr hk) (by (with_reducible repeat (first | apply Kd.R_alloc | apply Kd.R_drewN | apply Kd.R_drew)); exact HO.out) (Below.refl _ _) ?hb1 ?hb2 ?_; (case hb1 => have := HBW; have := HT.out.size; show _ ≤ wr.heap.size; omega); (case hb2 => rw [List.length_take]; omega); intro v1 w1 ho hb hg hat)
            all_goals
              have HV := Aside0.mk ho
              have hg1 := (HB6.out.drew).grown hg HNE.out
              have h60 := hg1.cell 0
              have h61 := hg1.cell 1
              simp only [List.getElem?_toArray, List.getElem?_cons_zero, List.getElem?_cons_succ] at h60 h61
              have ht1 : Turn MiH W.heap.size wo w1 := HT.out.drew.grown hg HRW.out
              have HT1 := Aside0.mk ht1
              have hj1 : J pre w1 := HJ.out _ _ _ HJP.out (ht1.lower HW.out.size)
              obtain ⟨fn, tmps, assign, body, hy, hR⟩ := HY.out pre (d, f) _ hj1 (by rw [HY0.out]; exact pre_snoc _ _ _)
              have HR := Aside0.mk hR
              clear hR hj1 ht1 hg1 ho hb hg hat
              go_upto_region 15 with (fail)
              refine (wpIn_wide (n := n)).1 ?_
              gi_wp2
              refine ⟨fun h => by simp [Fence.wide] at h, HR.out.mono ?_⟩
              rintro e W' (⟨rfl, h1, h2⟩ | ⟨rfl, h1⟩)
              · have H1 := Aside0.mk h1
                have H2 := Aside0.mk h2
                clear h1 h2
                gi_wp2
                try go_wp2
                go_roundw
                case rel =>
                  have hsz1 := HT1.out.size
                  have hsz2 := H2.out.size
                  refine ⟨pre ++ [(d, f)], st.take m ++ [(d, f)], i + 1, by go_num, by omega, ⟨?_⟩, ⟨?_⟩, H1, ⟨?_⟩, by omega, ⟨?_⟩, ?_⟩
                  · rw [HY0.out]; simp
                  · refine Kd.R_mono (Kd.R_move (Kd.R_bound HV.out) (fun k hk => ?_)) (fun _ _ => trivial)
                    obtain ⟨_, _, hk1, q, hq, cells, hc⟩ := hk
                    obtain rfl : q = 76 := by simpa [kP, Kd.pair, Kd.int, Kd.scalar] using hq
                    exact (H2.out.keep hc (by rintro (h | ⟨cs, e, fr, h, he⟩); cases h; cases h; simp at he)).trans hc.symm
                  · have hb1 : Below w0.heap.size w0 w1 := HB.out.trans ((HT1.out.below HBW).mono (Nat.le_trans HB0.out.size HW.out.size))
                    exact hb1.trans (H2.out.below hb1.size)
                  · intro e he
                    rcases List.mem_append.1 he with he | he
                    · have := HBD.out e (List.mem_of_mem_take he); omega
                    · obtain rfl := List.mem_singleton.1 he
                      have hs := foldKids_snd (1, (i : Int)) i ((st.drop (st.length - j)).take j) (by simp) (fun e he => (HBD.out e (List.mem_of_mem_drop (List.mem_of_mem_take he))).2.2)
                      rw [← HF.out] at hs
                      simp only at hs
                      refine ⟨hd1, ?_, hs.1, ?_⟩ <;> simp only <;> omega
                  · rw [List.length_append, List.length_take, List.length_singleton]; omega
                case measure => simp [intOf]; omega
              · have H1 := Aside0.mk h1
                clear h1
                gi_wp2
                try go_wp2
                refine bodyPost_ret (results_none rfl _ _ _) rfl ?_
                exact ⟨⟨_, rfl⟩, .inr ⟨_, by rw [HY0.out]; exact pre_snoc _ _ _, H1.out⟩⟩
    · obtain rfl : i = l0.length := by omega
      obtain ⟨A3, c3, e3, h3⟩ : ∃ A3 c3, u3 = .slice A3 st.length c3 ∧ st.length ≤ c3 := by
        obtain ⟨A3, c3, e3, h3, _⟩ := Kd.R_reads HST.out
        exact ⟨A3, c3, e3, h3⟩
      subst e3
      by_cases h1 : st.length = 1
      · have hb : ((st.length : Int) != 1) = false := by simp [h1]
        have HY0 : Aside0 (hts [] 0 (l0.map (·.f3)) = pre) := ⟨by rw [HEQ.out, List.drop_of_length_le (by simp), hts, if_pos h1, List.append_nil]⟩
        clear h1
        go_wp2
        go_end0
        exact ⟨⟨_, rfl⟩, .inl (by rw [HY0.out]; exact HJP.out)⟩
      · have hb : ((st.length : Int) != 1) = true := by simp; omega
        have HY0 : Aside0 (hts [] 0 (l0.map (·.f3)) = pre ++ [(-1, -1)]) := ⟨by rw [HEQ.out, List.drop_of_length_le (by simp), hts, if_neg h1]⟩
        obtain ⟨fn, tmps, assign, body, hy, hR⟩ := HY.out pre (-1, -1) _ HJP.out (by rw [HY0.out]; exact List.prefix_refl _)
        have HR := Aside0.mk hR
        clear hR h1
        go_upto_region 18 with (fail)
        refine (wpIn_wide (n := n)).1 ?_
        gi_wp2
        refine ⟨fun h => by simp [Fence.wide] at h, HR.out.mono ?_⟩
        rintro e W' (⟨rfl, h1, h2⟩ | ⟨rfl, h1⟩)
        · have H1 := Aside0.mk h1
          clear h1 h2
          gi_wp2
          try go_wp2
          go_end0
          exact ⟨⟨_, rfl⟩, .inl (by rw [HY0.out]; exact H1.out)⟩
        · have H1 := Aside0.mk h1
          clear h1
          gi_wp2
          try go_wp2
          go_end0
          exact ⟨⟨_, rfl⟩, .inr ⟨_, by rw [HY0.out]; exact List.prefix_refl _, H1.out⟩⟩
end Go.Proofs.Ytoioineibfldcaa.K
end

section
/-
  impl.measure (function 43) hands back, in new memory, what 'measL' makes of what impl.heights yields for the list's kid counts. Condition: at most 2932031007402 nodes.
-/
set_option linter.unusedVariables false
namespace Go.Proofs.Ytoioineibfldcaa.K
open Go.RowKit Go.Proofs.YtoioineibfldcaaW.PrintWords Go.Proofs.YtoioineibfldcaaW.PrintLast Go.Proofs.YtoioineibfldcaaW.PrintMore
open Go.Proofs.Ytoioineibfldcaa.T
attribute [local go_sem] Oper.semAt_some
set_option maxRecDepth 100000
set_option maxHeartbeats 2000000

/-- What measure makes of what heights yields. -/
def measL (Y : List (Int × Int)) : Int × List Int := if Y.any (fun x => decide (x.1 < 0)) = true then (0, []) else (((Y.getLast?).map (·.1)).getD 0, Y.map (·.2))
def impl_measure.f (l0 : List S41) : Option (Int × List Int) := if l0.length ≤ 2932031007402 then some (measL (hts [] 0 (l0.map (·.f3)))) else none

theorem heights_any (A : Option Addr) (c0 n : Nat) (w : World) :
    Calls Try.prog 55 #[.slice A n c0] w fun e w' => e = .returned (.func (.func 58) #[] #[.pointer (some ⟨w.heap.size, 0, none⟩)]) ∧ w.alloc (.cells #[.slice A n c0] 26) = w' := by
  go_enter Try.func55, Try.ntmps55
  go_wp2
  go_ret
  exact ⟨rfl, rfl⟩

theorem hts_len : ∀ (ks : List Int) (st : List (Int × Int)) (i : Int), (hts st i ks).length ≤ ks.length + 1
  | [], st, i => by rw [hts]; split <;> simp
  | k :: ks, st, i => by
    by_cases h : k < 0 ∨ (st.length : Int) < k
    · rw [hts_bad _ _ _ _ h]; simp
    · rw [hts_ok _ _ _ _ h, List.length_cons]
      have := hts_len ks (st.take (st.length - k.toNat) ++ [foldKids (1, i) (st.drop (st.length - k.toNat))]) (i + 1)
      simp; omega

def lastD (pre : List (Int × Int)) : Int := ((pre.getLast?).map (·.1)).getD 0
/-- Between two rounds of measure's loop. -/
def ImS (w : World) (pre : List (Int × Int)) (W : World) : Prop :=
  Blk W w.heap.size 3 #[.int .i64 0] ∧ Blk W (w.heap.size + 1) 56 #[.slice none 0 0] ∧ Blk W (w.heap.size + 2) 3 #[.int .i64 (lastD pre)] ∧
  (∃ v, Blk W (w.heap.size + 3) 56 #[v] ∧ W.ownsRow (w.heap.size + 5) 3 1 v pre.length (nums .i64 (pre.map (·.2)))) ∧ Below w.heap.size w W ∧ (∀ x ∈ pre, ¬ x.1 < 0) ∧ w.heap.size + 5 ≤ W.heap.size
def IxS (w : World) (c : Code) (pre : List (Int × Int)) (W : World) : Prop :=
  c = .ret ∧ (∃ x ∈ pre, x.1 < 0) ∧ Blk W w.heap.size 3 #[.int .i64 0] ∧ Blk W (w.heap.size + 1) 56 #[.slice none 0 0] ∧ Below w.heap.size w W ∧ w.heap.size + 5 ≤ W.heap.size
theorem notM {t : Nat} {cs : Array Value} {fr : Nat × Nat} (h : t ≠ 41) (h' : t ≠ 76) : ¬ (MiH (.cells cs t fr) ∨ (Obj.cells cs t fr).isCells = false) := by
  rintro (⟨cs, e, fr, he, hm⟩ | h)
  · cases he
    simp only [List.mem_cons, List.not_mem_nil, or_false] at hm
    exact hm.elim h h'
  · cases h
theorem ImS_abides (w : World) (B : Nat) (hB : w.heap.size ≤ B) : T.Abides (fun o => MiH o ∨ o.isCells = false) B (ImS w) := by
  rintro pre W W' ⟨k0, k1, k2, ⟨v, k3, ho⟩, hb, hp, hs⟩ ht
  exact ⟨k0.turn ht (notM (by decide) (by decide)), k1.turn ht (notM (by decide) (by decide)), k2.turn ht (notM (by decide) (by decide)), ⟨v, k3.turn ht (notM (by decide) (by decide)), ht.own ho (fun _ _ => notM (by decide) (by decide))⟩,
    hb.trans ⟨ht.os, ht.tape, ht.output, ht.size, fun k hk => ht.block k (by have := hb.size; omega) (.inl (by omega))⟩, hp, Nat.le_trans hs ht.size⟩
theorem IxS_abides (w : World) (c : Code) (B : Nat) (hB : w.heap.size ≤ B) : T.Abides (fun o => MiH o ∨ o.isCells = false) B (IxS w c) := by
  rintro pre W W' ⟨hc, hx, k0, k1, hb, hs⟩ ht
  exact ⟨hc, hx, k0.turn ht (notM (by decide) (by decide)), k1.turn ht (notM (by decide) (by decide)),
    hb.trans ⟨ht.os, ht.tape, ht.output, ht.size, fun k hk => ht.block k (by have := hb.size; omega) (.inl (by omega))⟩, Nat.le_trans hs ht.size⟩

theorem impl_measure.calls (A0 : Option Addr) (c0 : Nat) (l0 : List S41) (r1 : Int) (r2 : List Int) (w : World) (hr0 : Kd.C k41 w A0 l0.length l0) (hc0 : l0.length ≤ c0) (h : impl_measure.f l0 = some (r1, r2)) :
    Calls Try.prog 43 #[.slice A0 l0.length c0] w fun e w' => ∃ v1_ : Value, e = .returned (.tuple #[.int .i64 r1, v1_]) ∧ Kd.R (Kd.int .i64) 3 w' w.heap.size (fun _ => True) v1_ r2 ∧ Below w.heap.size w w' := by
  unfold impl_measure.f at h
  by_cases hbig : l0.length ≤ 2932031007402
  · rw [if_pos hbig] at h
    have hres := Option.some.inj h
    clear h
    have HRES := Aside0.mk hres
    have HR0 := Aside0.mk hr0
    clear hres hr0
    refine (callsIn_wide (n := 3)).1 ?_
    refine callsIn_of_wp_marks Try.func43 rfl trivial ?_ rfl
    simp only [Try.ntmps43, List.size_toArray, List.length_cons, List.length_nil, Nat.reduceAdd, Nat.reduceSub, Array.replicate_succ, Array.replicate_zero, List.push_toArray, List.append_toArray, List.nil_append, List.cons_append]
    gi_wp2_with (refine ⟨trivial, ?_⟩; gi_at_call 55; refine (callsIn_wide.2 (heights_any _ _ _ _)).mono ?_; rintro e w' ⟨rfl, rfl⟩)
    generalize hW0 : ((((w.alloc (Obj.cells #[Value.int IntKind.i64 0] 3)).alloc (Obj.cells #[Value.slice none 0 0] 56)).alloc (Obj.cells #[Value.int IntKind.i64 0] 3)).alloc (Obj.cells #[Value.slice none 0 0] 56)).alloc (Obj.cells #[Value.slice A0 l0.length c0] 26) = W0
    have hz : W0.heap.size = w.heap.size + 5 := by rw [← hW0]; simp
    have k0 : Blk W0 w.heap.size 3 #[.int .i64 0] := by rw [← hW0]; exact ((((Blk.new w 3 _).alloc _).alloc _).alloc _).alloc _
    have k1 : Blk W0 (w.heap.size + 1) 56 #[.slice none 0 0] := by
      have h := (((Blk.new (w.alloc (Obj.cells #[Value.int IntKind.i64 0] 3)) 56 #[.slice none 0 0]).alloc (Obj.cells #[Value.int IntKind.i64 0] 3)).alloc (Obj.cells #[Value.slice none 0 0] 56)).alloc (Obj.cells #[Value.slice A0 l0.length c0] 26)
      rw [← hW0]; simpa using h
    have k2 : Blk W0 (w.heap.size + 2) 3 #[.int .i64 0] := by
      have h := ((Blk.new ((w.alloc (Obj.cells #[Value.int IntKind.i64 0] 3)).alloc (Obj.cells #[Value.slice none 0 0] 56)) 3 #[.int .i64 0]).alloc (Obj.cells #[Value.slice none 0 0] 56)).alloc (Obj.cells #[Value.slice A0 l0.length c0] 26)
      rw [← hW0]; simpa using h
    have k3 : Blk W0 (w.heap.size + 3) 56 #[.slice none 0 0] := by
      have h := (Blk.new (((w.alloc (Obj.cells #[Value.int IntKind.i64 0] 3)).alloc (Obj.cells #[Value.slice none 0 0] 56)).alloc (Obj.cells #[Value.int IntKind.i64 0] 3)) 56 #[.slice none 0 0]).alloc (Obj.cells #[Value.slice A0 l0.length c0] 26)
      rw [← hW0]; simpa using h
    have k4 : Blk W0 (w.heap.size + 4) 26 #[.slice A0 l0.length c0] := by
      have h := Blk.new ((((w.alloc (Obj.cells #[Value.int IntKind.i64 0] 3)).alloc (Obj.cells #[Value.slice none 0 0] 56)).alloc (Obj.cells #[Value.int IntKind.i64 0] 3)).alloc (Obj.cells #[Value.slice none 0 0] 56)) 26 #[.slice A0 l0.length c0]
      rw [← hW0]; simpa using h
    have hB0 : Below w.heap.size w W0 := by rw [← hW0]; exact (((((Below.refl _ w).alloc (Nat.le_refl _) _).alloc (by simp) _).alloc (by simp; omega) _).alloc (by simp; omega) _).alloc (by simp; omega) _
    clear hW0
    have hYl : (hts [] 0 (l0.map (·.f3))).length ≤ l0.length + 1 := Nat.le_trans (hts_len _ _ _) (by simp)
    obtain ⟨i0, hi, hz0, hz1, hz2⟩ := info_parts info3
    refine wpIn_rangeFunc_T rfl (by omega) (gf := 58) (lb := #[.pointer (some ⟨w.heap.size + 4, 0, none⟩)]) rfl trivial (enters_of Try.func58 (by kernel_rfl) rfl)
      (Mi := MiH) (Mr := MrH) (by rintro o ⟨cs, e, fr, rfl, _⟩; rfl) (fun o h => .inl h) (B := w.heap.size) (by omega) (heights1 2 A0 c0 l0 w W0 (w.heap.size + 4) hbig HR0.out hB0 k4) (fun _ => rfl)
      (ImS w) (IxS w) (ImS_abides w _ (by omega)) (fun c => IxS_abides w c _ (by omega))
      ⟨k0, k1, k2, ⟨_, k3, World.ownsRow_nil _ _ _ _⟩, hB0, by simp, by omega⟩
      (fun x => { tmps := #[Value.slice A0 l0.length c0, undef, Value.pointer (some { block := w.heap.size, off := 0 }), Value.pointer (some { block := w.heap.size + 1, off := 0 }), Value.pointer (some { block := w.heap.size + 1 + 1, off := 0 }), Value.pointer (some { block := w.heap.size + 1 + 1 + 1, off := 0 }), .int .i64 x.1, .int .i64 x.2, Value.slice A0 l0.length c0, Value.func (Fn.func 58) #[] #[Value.pointer (some { block := w.heap.size + 1 + 1 + 1 + 1, off := 0 })], .int .i64 x.1, .int .i64 x.2, undef, undef, undef, undef, undef, undef, undef, undef, undef], defers := [] }) ?assign ?body ?done ?stop
    case assign =>
      intro l x W K hK
      gi_wp2
      exact hK
    case body =>
      rintro l pre x W ⟨k0, k1, k2, ⟨v, k3, ho⟩, hb, hp, hs⟩ hpre
      have c0 := k0.cell 0
      have c1 := k1.cell 0
      have c2 := k2.cell 0
      have c3 := k3.cell 0
      have f0 := k0.frozen 0
      have f1 := k1.frozen 0
      have f2 := k2.frozen 0
      have f3 := k3.frozen 0
      simp only [List.getElem?_toArray, List.getElem?_cons_zero] at c0 c1 c2 c3
      have hlen : pre.length + 1 ≤ l0.length + 1 := by
        have := hpre.length_le
        simp at this
        omega
      by_cases hx : x.1 < 0
      · gi_wp2
        refine ⟨(KeepsOthers.setCell _ _ _).trans (KeepsOthers.setCell _ _ _), rfl, ⟨x, by simp, hx⟩, ?_, ?_, ?_, by simpa using hs⟩
        · exact (k0.set_ 0 _).far (p := ⟨w.heap.size + 1, 0, none⟩) (by simp) _
        · exact (k1.far (p := ⟨w.heap.size, 0, none⟩) (by simp) _).set_ 0 _
        · exact (hb.setCell (p := ⟨w.heap.size, 0, none⟩) (Nat.le_refl _) _).setCell (p := ⟨w.heap.size + 1, 0, none⟩) (by simp) _
      · have hk2a : w.heap.size + 2 < W.heap.size := k2.lt
        have HO := Aside0.mk ho
        have K3 := Aside0.mk k3
        have HB := Aside0.mk hb
        have HP := Aside0.mk hp
        have K0 := Aside0.mk k0
        have K1 := Aside0.mk k1
        have K2 := Aside0.mk k2
        have HPRE := Aside0.mk hpre
        clear ho k3 hb hp k0 k1 k2 hpre
        have HN2 : Aside0 (∀ d, d < 5 → some (w.heap.size + d) ≠ v.ownBlock) := ⟨fun d hd he => by have := own_base HO.out _ he.symm; omega⟩
        have hown2 := Aside0.mk ((own_setCell (p := ⟨w.heap.size + 1 + 1, 0, none⟩) HO.out (HN2.out 2 (by omega)) (.int .i64 x.2)).alloc (Obj.cells #[Value.int IntKind.i64 x.2] 3))
        have hac := cell_one_new (W.setCell ⟨w.heap.size + 1 + 1, 0, none⟩ (.int .i64 x.1)) (.int .i64 x.2) 3
        rw [show (W.setCell ⟨w.heap.size + 1 + 1, 0, none⟩ (.int .i64 x.1)).heap.size = W.heap.size by simp [World.setCell]] at hac
        have AC := Aside0.mk hac
        clear hac
        gi_wp2_with (gi_at_builtin; refine wpListIn_append_own _ rfl (.tmp 15) (.tmp 17) 56 rfl (w.heap.size + 5) 3 i0 (.int .i64 0) 1 8 Try.underlying56 hi hz0 hz1 hz2 rfl (by decide) v pre.length (nums .i64 (pre.map (·.2))) rfl ?aO ⟨W.heap.size, 0, none⟩ 1 1 [.int .i64 x.2] rfl rfl ?aC ?aV ?a1 ?a2 ?a3 ?_; (case aO => exact (own_setCell (p := ⟨w.heap.size + 1 + 1, 0, none⟩) HO.out (HN2.out 2 (by omega)) _).alloc _); (case aC => exact AC.out); (case aV => simp [Value.oneCell']); (case a1 => unfold maxLen; omega); (case a2 => omega); (case a3 => simp [World.setCell]; omega); intro v' w1 hown' hgrow _; obtain ⟨g', cap', rfl⟩ := ownsRow_succ hown'; have k3' := ((K3.out.far (p := ⟨w.heap.size + 1 + 1, 0, none⟩) (by simp) (.int .i64 x.1)).alloc (Obj.cells #[Value.int IntKind.i64 x.2] 3)).grown hgrow (HN2.out 3 (by omega)); have c3' := k3'.cell 0; have f3' := k3'.frozen 0; (simp only [List.getElem?_toArray, List.getElem?_cons_zero] at c3'); have HOWN := Aside0.mk hown'; have HG := Aside0.mk hgrow; have K3' := Aside0.mk k3'; clear hown' hgrow k3')
        have k0' := ((K0.out.far (p := ⟨w.heap.size + 1 + 1, 0, none⟩) (by simp; omega) (.int .i64 x.1)).alloc (Obj.cells #[Value.int IntKind.i64 x.2] 3)).grown HG.out (by simpa using HN2.out 0 (by omega))
        have k1' := ((K1.out.far (p := ⟨w.heap.size + 1 + 1, 0, none⟩) (by simp) (.int .i64 x.1)).alloc (Obj.cells #[Value.int IntKind.i64 x.2] 3)).grown HG.out (HN2.out 1 (by omega))
        have k2' := ((K2.out.set_ 0 (.int .i64 x.1)).alloc (Obj.cells #[Value.int IntKind.i64 x.2] 3)).grown HG.out (HN2.out 2 (by omega))
        have hrow : ∀ k, v.ownBlock = some k → w.heap.size ≤ k ∧ ∃ o, ((W.setCell ⟨w.heap.size + 1 + 1, 0, none⟩ (.int .i64 x.1)).alloc (Obj.cells #[Value.int IntKind.i64 x.2] 3)).heap[k]? = some o ∧ MrH o := fun k hk => by
          have h2 := (own_setCell (p := ⟨w.heap.size + 1 + 1, 0, none⟩) HO.out (HN2.out 2 (by omega)) (.int .i64 x.1)).alloc (Obj.cells #[Value.int IntKind.i64 x.2] 3)
          obtain ⟨cells, hc⟩ := own_typed h2 k hk
          exact ⟨by have := own_base HO.out k hk; omega, _, hc, .inr ⟨_, _, _, rfl, by simp⟩⟩
        have t1 : Turn MrH w.heap.size W w1 := (((Turn.refl _ _ _).setCell (p := ⟨w.heap.size + 1 + 1, 0, none⟩) (by simp; omega) K2.out (.inr ⟨_, _, _, rfl, by simp⟩) _).alloc _).grown HG.out hrow
        have hlt' : w.heap.size + 5 ≤ w1.heap.size := Nat.le_trans hs t1.size
        refine ⟨?_, t1.setCell (p := ⟨w.heap.size + 1 + 1 + 1, 0, none⟩) (by simp; omega) K3'.out (.inr ⟨_, _, _, rfl, by simp⟩) _, ?_, ?_, ?_, ⟨.slice (some ⟨g', 0, none⟩) (pre.length + 1) cap', ?_, ?_⟩, ?_, ?_, by simpa using hlt'⟩
        · refine (((KeepsOthers.setCell _ _ _).trans (KeepsOthers.alloc _ _)).trans (KeepsOthers.of_grownBy HG.out (fun k o hk ho => ?_))).trans (KeepsOthers.setCell _ _ _)
          obtain ⟨_, o', ho', hM⟩ := hrow k hk
          rw [ho] at ho'
          cases ho'
          have h2 := (own_setCell (p := ⟨w.heap.size + 1 + 1, 0, none⟩) HO.out (HN2.out 2 (by omega)) (.int .i64 x.1)).alloc (Obj.cells #[Value.int IntKind.i64 x.2] 3)
          obtain ⟨cells, hc⟩ := own_typed h2 k hk
          rw [ho] at hc
          cases hc
          rfl
        · exact k0'.far (p := ⟨w.heap.size + 1 + 1 + 1, 0, none⟩) (by first | (simp; done) | (simp; omega)) _
        · exact k1'.far (p := ⟨w.heap.size + 1 + 1 + 1, 0, none⟩) (by first | (simp; done) | (simp; omega)) _
        · have := k2'.far (p := ⟨w.heap.size + 1 + 1 + 1, 0, none⟩) (by simp) (.slice (some ⟨g', 0, none⟩) (pre.length + 1) cap')
          simpa [lastD] using this
        · exact K3'.out.set_ 0 _
        · have h5 := own_setCell (p := ⟨w.heap.size + 1 + 1 + 1, 0, none⟩) HOWN.out (fun he => by have := own_base HOWN.out _ he.symm; simp only at this; omega) (.slice (some ⟨g', 0, none⟩) (pre.length + 1) cap')
          simpa [nums] using h5
        · exact HB.out.trans ((t1.setCell (p := ⟨w.heap.size + 1 + 1 + 1, 0, none⟩) (by simp; omega) K3'.out (.inr ⟨_, _, _, rfl, by simp⟩) _).below HB.out.size)
        · intro y hy
          rcases List.mem_append.1 hy with hy | hy
          · have := HP.out y hy; omega
          · rw [List.mem_singleton.1 hy]; omega
    case done =>
      rintro D W hD ⟨k0, k1, k2, ⟨v, k3, ho⟩, hb, hp, hs⟩ hK
      have hD' : w.heap.size + 5 ≤ D := by omega
      obtain ⟨A5, c5, e5⟩ := own_slice ho
      subst e5
      have c0 := k0.cell 0
      have c1 := k1.cell 0
      have c2 := k2.cell 0
      have c3 := k3.cell 0
      have f0 := k0.frozen 0
      have f1 := k1.frozen 0
      simp only [List.getElem?_toArray, List.getElem?_cons_zero] at c0 c1 c2 c3
      clear hD

      gi_wp2
      gi_region
      gi_wp2
      obtain ⟨X, hX⟩ : ∃ X, ((W.setCell ⟨w.heap.size, 0, none⟩ (Value.int IntKind.i64 (lastD (hts [] 0 (List.map (fun x => x.f3) l0))))).setCell ⟨w.heap.size + 1, 0, none⟩ (Value.slice A5 (hts [] 0 (List.map (fun x => x.f3) l0)).length c5)).drew = X := ⟨_, rfl⟩
      rw [hX]
      have hKX : X.heap[D]? = some (.deferred (some [])) := by rw [← hX]; exact ((KeepsOthers.setCell _ _ _).trans (KeepsOthers.setCell _ _ _)).same D _ hK rfl
      have m0 : Blk X w.heap.size 3 #[Value.int IntKind.i64 (lastD (hts [] 0 (List.map (fun x => x.f3) l0)))] := by
        rw [← hX]; exact ((k0.set_ 0 _).far (p := ⟨w.heap.size + 1, 0, none⟩) (by simp) _).drew
      have m1 : Blk X (w.heap.size + 1) 56 #[Value.slice A5 (hts [] 0 (List.map (fun x => x.f3) l0)).length c5] := by
        rw [← hX]; exact ((k1.far (p := ⟨w.heap.size, 0, none⟩) (by simp) _).set_ 0 _).drew
      have hown : X.ownsRow (w.heap.size + 5) 3 1 (Value.slice A5 (hts [] 0 (List.map (fun x => x.f3) l0)).length c5) (hts [] 0 (List.map (fun x => x.f3) l0)).length (nums .i64 ((hts [] 0 (l0.map (·.f3))).map (·.2))) := by
        rw [← hX]
        have h5 := own_setCell (p := ⟨w.heap.size + 1, 0, none⟩) (own_setCell (p := ⟨w.heap.size, 0, none⟩) ho (fun he => by have := own_base ho _ he.symm; simp only at this; omega) (Value.int IntKind.i64 (lastD (hts [] 0 (List.map (fun x => x.f3) l0))))) (fun he => by have := own_base ho _ he.symm; simp only at this; omega) (Value.slice A5 (hts [] 0 (List.map (fun x => x.f3) l0)).length c5)
        exact h5
      have hbX : Below w.heap.size w X := by rw [← hX]; exact ((hb.setCell (p := ⟨w.heap.size, 0, none⟩) (Nat.le_refl _) _).setCell (p := ⟨w.heap.size + 1, 0, none⟩) (by simp) _).drew
      clear hX k0 k1 k2 k3 ho hb c0 c1 c2 c3 f0 f1
      have g := grownBy_putObj' X D (.deferred none)
      have n0 := (m0.grown g (by simp; omega)).cell 0
      have n1 := (m1.grown g (by simp; omega)).cell 0
      simp only [List.getElem?_toArray, List.getElem?_cons_zero] at n0 n1
      have hres : (r1, r2) = (lastD (hts [] 0 (l0.map (·.f3))), (hts [] 0 (l0.map (·.f3))).map (·.2)) := by
        rw [← HRES.out, measL, if_neg (by simp only [List.any_eq_true, decide_eq_true_eq, not_exists, not_and]; exact fun x hx => by have := hp x hx; omega)]
        rfl
      obtain ⟨rfl, rfl⟩ := Prod.mk.inj hres
      refine ⟨by simp, .inl ⟨_, _, rfl, run_takeDeferred hKX, ?_⟩⟩
      refine ⟨.tuple #[.int .i64 (lastD (hts [] 0 (l0.map (·.f3)))), Value.slice A5 (hts [] 0 (List.map (fun x => x.f3) l0)).length c5], ?_, _, rfl, ?_, hbX.trans ((Below.refl _ _).grown g hbX.size (fun k e => by cases e; omega))⟩
      · simp [results, Try.f43, go_sem, n0, n1]
      · have h6 := hown.kept g (by right; intro he; have := (hown.lt D he); obtain ⟨cells, hc⟩ := own_typed hown D he; rw [hKX] at hc; cases hc)
        have h7 := own_weaken h6 (show w.heap.size ≤ w.heap.size + 5 by omega)
        refine Kd.R_of_own ?_ (fun _ _ => trivial)
        simpa [encs, nums] using h7
    case stop =>
      rintro D c pre W hD hpre ⟨rfl, hx, k0, k1, hb, hs⟩ hK
      gi_wp2
      have g := grownBy_putObj' W D (.deferred none)
      have n0 := (k0.grown g (by simp; omega)).cell 0
      have n1 := (k1.grown g (by simp; omega)).cell 0
      simp only [List.getElem?_toArray, List.getElem?_cons_zero] at n0 n1
      have hres : (r1, r2) = ((0 : Int), ([] : List Int)) := by
        rw [← HRES.out, measL, if_pos (by simp only [List.any_eq_true, decide_eq_true_eq]; obtain ⟨x, hx1, hx2⟩ := hx; exact ⟨x, hpre.subset hx1, hx2⟩)]
      obtain ⟨rfl, rfl⟩ := Prod.mk.inj hres
      refine ⟨by simp, .inl ⟨_, _, rfl, run_takeDeferred hK, ?_⟩⟩
      refine ⟨.tuple #[.int .i64 0, .slice none 0 0], ?_, _, rfl, Kd.R_nil _ _ _ _ _, hb.trans ((Below.refl _ _).grown g hb.size (fun k e => by cases e; omega))⟩
      simp [results, Try.f43, go_sem, n0, n1]
  · rw [if_neg hbig] at h
    cases h
end Go.Proofs.Ytoioineibfldcaa.K
end

section
/-
  spec.l1Sizes (function 41) hands back, in new memory, the sizes of the terms that end at each node ('sizesP' of the kid counts). Condition: at most 2932031007402 nodes.
-/
set_option linter.unusedVariables false
namespace Go.Proofs.Ytoioineibfldcaa.K
open Go.RowKit Go.Proofs.YtoioineibfldcaaW.PrintWords Go.Proofs.YtoioineibfldcaaW.PrintLast Go.Proofs.YtoioineibfldcaaW.PrintMore
set_option maxRecDepth 100000
set_option maxHeartbeats 4000000

/-- The sizes of the terms that end at each node, from the open terms' beginnings and the index on. -/
def szs : List Int → Int → List Int → Option (List Int)
  | _, _, [] => some []
  | op, i, k :: ks => if k < 0 ∨ (op.length : Int) < k then none else
      let b := if 0 < k then op.getD (op.length - k.toNat) 0 else i
      (szs (op.take (op.length - k.toNat) ++ [b]) (i + 1) ks).map (fun r => (i - b + 1) :: r)
def sizesP (ks : List Int) : List Int := (szs [] 0 ks).getD []
def spec_l1Sizes.f (l0 : List S41) : Option (List Int) := if l0.length ≤ 2932031007402 then some (sizesP (l0.map (·.f3))) else none

theorem szs_bad (op : List Int) (i k : Int) (ks : List Int) (h : k < 0 ∨ (op.length : Int) < k) : szs op i (k :: ks) = none := by rw [szs, if_pos h]
theorem szs_ok (op : List Int) (i k : Int) (ks : List Int) (h : ¬ (k < 0 ∨ (op.length : Int) < k)) (b : Int) (hb : (if 0 < k then op.getD (op.length - k.toNat) 0 else i) = b) :
    szs op i (k :: ks) = (szs (op.take (op.length - k.toNat) ++ [b]) (i + 1) ks).map (fun r => (i - b + 1) :: r) := by
  rw [szs, if_neg h, hb]

theorem spec_l1Sizes.calls (A0 : Option Addr) (c0 : Nat) (l0 : List S41) (r : List Int) (w : World) (hr0 : Kd.C k41 w A0 l0.length l0) (hc0 : l0.length ≤ c0) (h : spec_l1Sizes.f l0 = some r) :
    Calls Try.prog 41 #[.slice A0 l0.length c0] w fun e w' => ∃ v0_ : Value, e = .returned v0_ ∧ Kd.R (Kd.int .i64) 3 w' w.heap.size (fun _ => True) v0_ r ∧ Below w.heap.size w w' := by
  unfold spec_l1Sizes.f at h
  by_cases hbig : l0.length ≤ 2932031007402
  · rw [if_pos hbig] at h
    have hres := Option.some.inj h
    clear h
    have HRES := Aside0.mk hres
    have HR0 := Aside0.mk hr0
    clear hres hr0
    go_enter Try.func41, Try.ntmps41
    go_wp2
    go_loopw [3, 4, 5] (fun v3 v4 v5 wr => ∃ (don op : List Int) (i : Nat), v5 = .int .i64 i ∧ i ≤ l0.length ∧ Aside0 (szs [] 0 (l0.map (·.f3)) = (szs op i ((l0.map (·.f3)).drop i)).map (don ++ ·)) ∧ don.length = i ∧ op.length ≤ i ∧ Aside0 (∀ e ∈ op, 0 ≤ e ∧ e < i) ∧
      Aside0 (Kd.R (Kd.int .i64) 3 wr w.heap.size (fun _ => True) v4 op) ∧ Aside0 (Kd.R (Kd.int .i64) 3 wr w.heap.size (fun k => True ∧ some k ≠ v4.ownBlock) v3 don) ∧ Aside0 (Below w.heap.size w wr))
      (fun _ _ i _ => l0.length - (intOf i).toNat)
    case atStart =>
      have o1 : ((w.alloc (Obj.cells #[] 3)).alloc (Obj.cells #[] 3)).ownsRow w.heap.size 3 1 (.slice (some ⟨w.heap.size, 0, none⟩) 0 0) 0 [] := (World.ownsRow_made w #[] 0 (Nat.le_refl _) (by simp [maxLen]) rfl).alloc _
      have o2 := World.ownsRow_made (e := 3) (size := 1) (base := w.heap.size) (w.alloc (Obj.cells #[] 3)) #[] 0 (by simp) (by simp [maxLen]) rfl
      rw [World.size_alloc] at o2
      refine ⟨[], [], 0, rfl, Nat.zero_le _, ⟨by simp⟩, rfl, Nat.zero_le _, ⟨by simp⟩, ⟨?_⟩, ⟨?_⟩, ⟨((Below.refl _ _).alloc (Nat.le_refl _) _).alloc (by simp) _⟩⟩
      · exact Kd.R_of_own (xs := []) o2 (fun _ _ => trivial)
      · exact Kd.R_of_own (xs := []) o1 (fun k hk => ⟨trivial, by simp [Value.ownBlock] at hk ⊢; omega⟩)
    case round =>
      obtain ⟨don, op, i, rfl, hi, HEQ, hdl, hol, HBD, HOP, HDO, HB⟩ := hrel
      by_cases hlt : i < l0.length
      · obtain ⟨ad, hA, hx0, hx1, hx2, hx3, hx4⟩ := at_T41 HR0.out (i : Int) (by omega) (by omega)
        subst hA
        replace hx3 := (HB.out.cell (World.block_lt_of_cell? w _ hx3)).trans hx3
        clear hx0 hx1 hx2 hx4
        rw [Int.toNat_natCast] at hx3
        have hdrop := drop_f3 l0 i hlt
        obtain ⟨kq, hkq⟩ : ∃ kq, (rd_T41 l0 (i : Int)).f3 = kq := ⟨_, rfl⟩
        rw [hkq] at hx3 hdrop
        clear hkq
        have HDR := Aside0.mk hdrop
        clear hdrop
        obtain ⟨A4, c4, e4, h4⟩ : ∃ A4 c4, u4 = .slice A4 op.length c4 ∧ op.length ≤ c4 := by
          obtain ⟨A4, c4, e4, h4, _⟩ := Kd.R_reads HOP.out
          exact ⟨A4, c4, e4, h4⟩
        subst e4
        by_cases hn0 : kq < 0 ∨ (op.length : Int) < kq
        · have hY0 : r = [] := by rw [← HRES.out, sizesP, HEQ.out, HDR.out, szs_bad _ _ _ _ hn0]; rfl
          subst hY0
          by_cases hn1 : kq < 0
          all_goals
            first | (have hn2 : (op.length : Int) < kq := by rcases hn0 with h | h; exact absurd h hn1; exact h) | skip
            clear hn0
            go_wp2
            go_ret
            refine ⟨_, rfl, Kd.R_of_own (xs := []) (World.ownsRow_made wr #[] 0 HB.out.size (by simp [maxLen]) rfl) (fun _ _ => trivial), HB.out.alloc HB.out.size _⟩
        · obtain ⟨kn, rfl⟩ : ∃ kn : Nat, kq = kn := ⟨kq.toNat, by omega⟩
          have hk0 : ¬ ((kn : Int) < 0) := by omega
          have hk1 : kn ≤ op.length := by omega
          have hk2 : ¬ (op.length < kn) := by omega
          clear hn0
          obtain ⟨m, hm⟩ : ∃ m, m = op.length - kn := ⟨_, rfl⟩
          obtain ⟨i0, hi0, hz0, hz1, hz2⟩ := info_parts info3
          have hcut := cut_to (P := Try.prog) 56 3 .i64 Try.underlying56 hi0 A4 op.length c4 ((op.length : Int) - (kn : Int)) (by omega) (by omega) h4
          rw [show ((op.length : Int) - (kn : Int)).toNat = m by omega] at hcut
          have HM := Aside0.mk hm
          have hml : m ≤ op.length := by omega
          clear hm
          obtain ⟨b, hb⟩ : ∃ b, (if 0 < kn then op.getD m 0 else (i : Int)) = b := ⟨_, rfl⟩
          have hb0 : 0 ≤ b ∧ b ≤ i := by
            rw [← hb]
            split
            · have := HBD.out (op.getD m 0) (by rw [List.getD_eq_getElem?_getD, List.getElem?_eq_getElem (by have := HM.out; omega)]; exact List.getElem_mem _)
              omega
            · omega
          obtain ⟨hb1, hb2⟩ := hb0
          have hY0 : szs [] 0 (l0.map (·.f3)) = (szs (op.take m ++ [b]) ((i : Int) + 1) ((l0.map (·.f3)).drop (i + 1))).map ((don ++ [(i : Int) - b + 1]) ++ ·) := by
            rw [HEQ.out, HDR.out, szs_ok _ _ _ _ (by omega) b (by rw [← hb, Int.toNat_natCast, ← HM.out]; simp), Int.toNat_natCast, ← HM.out, Option.map_map]
            congr 1
            funext r
            simp
          have HY0 := Aside0.mk hY0
          have HO := Aside0.mk (Kd.R_take (m := m) HOP.out hml)
          have hwr : ((i : Int) - b) + 1 ≤ 9223372036854775807 := by omega
          clear hY0
          by_cases hkp : 0 < kn
          · obtain ⟨adx, hax, hcx⟩ := Kd.at_int (Kd.R_reads' HOP.out).2.2 (m : Int) (by omega) (by have := HM.out; omega)
            subst hax
            rw [Int.toNat_natCast, rd, Int.toNat_natCast] at hcx
            rw [if_pos hkp] at hb
            rw [hb] at hcx
            have hmm : ((op.length : Int) - (kn : Int)) = (m : Int) := by have := HM.out; omega
            have HB' := Aside0.mk hb
            clear hb
            go_wp2_with (first | (at_builtin; refine Kd.R_append (Kd.int .i64) (w0 := w) w.heap.size rfl (.tmp 45) (.tmp 47) 56 3 (.int .i64 0) 8 rfl Try.underlying56 info3 rfl (by decide) (by omega) (.slice (some adx) m c4) (op.take m) b [.int .i64 b] (fun _ => True) (fun _ => False) rfl rfl rfl (fun _ hk => hk.elim) (fun _ _ => trivial) HO.out HB.out HB.out.size ?aL ?_; (case aL => rw [List.length_take]; omega); intro v4' w1 ho hb hg hat; have HDO1 := Aside0.mk (Kd.R_after (ok := fun _ => True) (v := .slice (some adx) m c4) (Kd.R_mono HDO.out (fun k hk => ⟨trivial, by exact hk.2⟩)) hg hat); have HO1 := Aside0.mk ho; have HB1 := Aside0.mk hb; clear ho hb hg hat) | (at_builtin; refine Kd.R_append (Kd.int .i64) (w0 := w) w.heap.size rfl (.tmp 49) (.tmp 54) 56 3 (.int .i64 0) 8 rfl Try.underlying56 info3 rfl (by decide) (by omega) u3 don ((i : Int) - b + 1) [.int .i64 ((i : Int) - b + 1)] (fun k => True ∧ some k ≠ v4'.ownBlock) (fun _ => False) rfl rfl rfl (fun _ hk => hk.elim) (fun k hk => ⟨trivial, Kd.fresh' (Kd.R_lt HO1.out) k hk⟩) HDO1.out HB1.out HB1.out.size ?aL ?_; (case aL => omega); intro v3' w2 ho hb hg hat; have HDO2 := Aside0.mk ho; have HB2 := Aside0.mk hb; have HG2 := Aside0.mk hg; clear ho hb hg hat))
            go_roundw
            case rel =>
              have hk4 := (Kd.own_of_R HO1.out).kept HG2.out (by
                by_cases hv : v4'.ownBlock = none
                · exact .inl hv
                · right
                  intro he
                  obtain ⟨k, hk⟩ := Option.ne_none_iff_exists'.1 hv
                  exact (HDO1.out.1 k (he ▸ hk)).2 hk.symm)
              refine ⟨don ++ [(i : Int) - b + 1], op.take m ++ [b], i + 1, by go_num, by omega, ⟨?_⟩, by simp [hdl], by rw [List.length_append, List.length_take, List.length_singleton]; omega, ⟨?_⟩, ⟨Kd.R_of_own hk4 (fun _ _ => trivial)⟩, HDO2, HB2⟩
              · rw [HY0.out]; simp
              · intro e he
                rcases List.mem_append.1 he with he | he
                · have := HBD.out e (List.mem_of_mem_take he); omega
                · rw [List.mem_singleton.1 he]; omega
            case measure => simp [intOf]; omega
          · obtain rfl : kn = 0 := by omega
            rw [if_neg hkp] at hb
            subst hb
            obtain rfl : m = op.length := by have := HM.out; omega
            rw [show ((op.length : Int) - ((0 : Nat) : Int)) = (op.length : Int) by omega] at hcut
            go_wp2_with (first | (at_builtin; refine Kd.R_append (Kd.int .i64) (w0 := w) w.heap.size rfl (.tmp 45) (.tmp 47) 56 3 (.int .i64 0) 8 rfl Try.underlying56 info3 rfl (by decide) (by omega) (.slice A4 op.length c4) (op.take op.length) (i : Int) [.int .i64 (i : Int)] (fun _ => True) (fun _ => False) rfl rfl rfl (fun _ hk => hk.elim) (fun _ _ => trivial) HO.out HB.out HB.out.size ?aL ?_; (case aL => rw [List.length_take]; omega); intro v4' w1 ho hb hg hat; have HDO1 := Aside0.mk (Kd.R_after (ok := fun _ => True) (v := .slice A4 op.length c4) (Kd.R_mono HDO.out (fun k hk => ⟨trivial, by cases A4 <;> exact hk.2⟩)) hg hat); have HO1 := Aside0.mk ho; have HB1 := Aside0.mk hb; clear ho hb hg hat) | (at_builtin; refine Kd.R_append (Kd.int .i64) (w0 := w) w.heap.size rfl (.tmp 49) (.tmp 54) 56 3 (.int .i64 0) 8 rfl Try.underlying56 info3 rfl (by decide) (by omega) u3 don 1 [.int .i64 1] (fun k => True ∧ some k ≠ v4'.ownBlock) (fun _ => False) rfl rfl rfl (fun _ hk => hk.elim) (fun k hk => ⟨trivial, Kd.fresh' (Kd.R_lt HO1.out) k hk⟩) HDO1.out HB1.out HB1.out.size ?aL ?_; (case aL => omega); intro v3' w2 ho hb hg hat; have HDO2 := Aside0.mk ho; have HB2 := Aside0.mk hb; have HG2 := Aside0.mk hg; clear ho hb hg hat))
            go_roundw
            case rel =>
              have hk4 := (Kd.own_of_R HO1.out).kept HG2.out (by
                by_cases hv : v4'.ownBlock = none
                · exact .inl hv
                · right
                  intro he
                  obtain ⟨k, hk⟩ := Option.ne_none_iff_exists'.1 hv
                  exact (HDO1.out.1 k (he ▸ hk)).2 hk.symm)
              refine ⟨don ++ [1], op.take op.length ++ [(i : Int)], i + 1, by go_num, by omega, ⟨?_⟩, by simp [hdl], by rw [List.length_append, List.length_take, List.length_singleton]; omega, ⟨?_⟩, ⟨Kd.R_of_own hk4 (fun _ _ => trivial)⟩, HDO2, HB2⟩
              · rw [HY0.out]; simp
              · intro e he
                rcases List.mem_append.1 he with he | he
                · have := HBD.out e (List.mem_of_mem_take he); omega
                · rw [List.mem_singleton.1 he]; omega
            case measure => simp [intOf]; omega
      · obtain rfl : i = l0.length := by omega
        have hY0 : r = don := by
          rw [← HRES.out, sizesP, HEQ.out, List.drop_of_length_le (by simp), szs]
          simp
        subst hY0
        go_wp2
        go_ret
        exact ⟨_, rfl, Kd.R_mono HDO.out (fun _ _ => trivial), HB.out⟩
  · rw [if_neg hbig] at h
    cases h
end Go.Proofs.Ytoioineibfldcaa.K
end

section
/-
  The plain law behind Good, Deep, Part and Kids: the stack of open terms, run along the kid counts, gives both what impl.heights yields and the reference's sizes, roots and depths. Condition: the numbers stay below 2^63.
-/
set_option linter.unusedVariables false
namespace Go.Proofs.Ytoioineibfldcaa.K
open Go.RowKit Go.Proofs.YtoioineibfldcaaW.PrintWords Go.Proofs.YtoioineibfldcaaW.PrintLast Go.Proofs.YtoioineibfldcaaW.PrintMore

/-- The stack run along the kid counts: what is told of each node, and the stack that is left. -/
def run : List (Int × Int) → Int → List Int → Option (List (Int × Int) × List (Int × Int))
  | st, _, [] => some ([], st)
  | st, i, k :: ks => if k < 0 ∨ (st.length : Int) < k then none else
      (run (st.take (st.length - k.toNat) ++ [foldKids (1, i) (st.drop (st.length - k.toNat))]) (i + 1) ks).map
        (fun p => (foldKids (1, i) (st.drop (st.length - k.toNat)) :: p.1, p.2))
theorem run_bad (st : List (Int × Int)) (i k : Int) (ks : List Int) (h : k < 0 ∨ (st.length : Int) < k) : run st i (k :: ks) = none := by rw [run, if_pos h]
theorem run_ok (st : List (Int × Int)) (i k : Int) (ks : List Int) (h : ¬ (k < 0 ∨ (st.length : Int) < k)) :
    run st i (k :: ks) = (run (st.take (st.length - k.toNat) ++ [foldKids (1, i) (st.drop (st.length - k.toNat))]) (i + 1) ks).map (fun p => (foldKids (1, i) (st.drop (st.length - k.toNat)) :: p.1, p.2)) := by
  rw [run, if_neg h]
theorem run_len : ∀ (ks : List Int) (st : List (Int × Int)) (i : Int) (Y fin : List (Int × Int)), run st i ks = some (Y, fin) → Y.length = ks.length := by
  intro ks
  induction ks with
  | nil => intro st i Y fin h; simp [run] at h; obtain ⟨rfl, rfl⟩ := h; rfl
  | cons k ks ih =>
    intro st i Y fin h
    by_cases hb : k < 0 ∨ (st.length : Int) < k
    · rw [run_bad _ _ _ _ hb] at h; cases h
    · rw [run_ok _ _ _ _ hb] at h
      obtain ⟨⟨Y', fin'⟩, h1, h2⟩ := Option.map_eq_some_iff.1 h
      obtain ⟨rfl, rfl⟩ := Prod.mk.inj h2
      simp [ih _ _ _ _ h1]

theorem hts_none : ∀ (ks : List Int) (st : List (Int × Int)) (i : Int), run st i ks = none → ∃ x ∈ hts st i ks, x.1 < 0 := by
  intro ks
  induction ks with
  | nil => intro st i h; simp [run] at h
  | cons k ks ih =>
    intro st i h
    by_cases hb : k < 0 ∨ (st.length : Int) < k
    · rw [hts_bad _ _ _ _ hb]; exact ⟨(-1, -1), by simp, by decide⟩
    · rw [run_ok _ _ _ _ hb] at h
      obtain ⟨x, hx, hn⟩ := ih _ _ (Option.map_eq_none_iff.1 h)
      rw [hts_ok _ _ _ _ hb]
      exact ⟨x, List.mem_cons_of_mem _ hx, hn⟩
theorem hts_some : ∀ (ks : List Int) (st : List (Int × Int)) (i : Int) (Y fin : List (Int × Int)), run st i ks = some (Y, fin) → hts st i ks = Y ++ (if fin.length = 1 then [] else [(-1, -1)]) := by
  intro ks
  induction ks with
  | nil => intro st i Y fin h; simp [run] at h; obtain ⟨rfl, rfl⟩ := h; simp [hts]
  | cons k ks ih =>
    intro st i Y fin h
    by_cases hb : k < 0 ∨ (st.length : Int) < k
    · rw [run_bad _ _ _ _ hb] at h; cases h
    · rw [run_ok _ _ _ _ hb] at h
      obtain ⟨⟨Y', fin'⟩, h1, h2⟩ := Option.map_eq_some_iff.1 h
      obtain ⟨rfl, rfl⟩ := Prod.mk.inj h2
      rw [hts_ok _ _ _ _ hb, ih _ _ _ _ h1]
      rfl

/-- The sizes that belong to what is told of the nodes from index i on. -/
def szOf : Int → List (Int × Int) → List Int
  | _, [] => []
  | i, e :: Y => (i - e.2 + 1) :: szOf (i + 1) Y
theorem szOf_len : ∀ (Y : List (Int × Int)) (i : Int), (szOf i Y).length = Y.length
  | [], _ => rfl
  | e :: Y, i => by simp [szOf, szOf_len Y (i + 1)]
theorem szOf_get : ∀ (Y : List (Int × Int)) (i : Int) (j : Nat) (e : Int × Int), Y[j]? = some e → (szOf i Y)[j]? = some (i + j - e.2 + 1)
  | [], _, _, _, h => by simp at h
  | x :: Y, i, 0, e, h => by simp at h; subst h; simp [szOf]
  | x :: Y, i, j + 1, e, h => by
    simp at h
    simp only [szOf, List.getElem?_cons_succ]
    rw [szOf_get Y (i + 1) j e h]
    congr 1
    omega
theorem foldKids_from (i : Int) (xs : List (Int × Int)) : (foldKids (1, i) xs).2 = match xs with | [] => i | x :: _ => x.2 := by
  cases xs with
  | nil => rfl
  | cons x r =>
    have key : ∀ (r : List (Int × Int)) (w : Int × Int), (r.foldl (fun w kid => foldKid w kid false) w).2 = w.2 := by
      intro r
      induction r with
      | nil => intro w; rfl
      | cons y r ih => intro w; rw [List.foldl_cons, ih]; rfl
    rw [foldKids, key]
    rfl
theorem szs_b (st : List (Int × Int)) (i k : Int) (h : ¬ (k < 0 ∨ (st.length : Int) < k)) :
    (if 0 < k then (st.map (·.2)).getD ((st.map (·.2)).length - k.toNat) 0 else i) = (foldKids (1, i) (st.drop (st.length - k.toNat))).2 := by
  rw [foldKids_from]
  by_cases hk : 0 < k
  · rw [if_pos hk, List.length_map]
    have hlt : st.length - k.toNat < st.length := by omega
    rw [List.drop_eq_getElem_cons hlt]
    simp [List.getD_eq_getElem?_getD, hlt]
  · rw [if_neg hk]
    have : st.length - k.toNat = st.length := by omega
    rw [this, List.drop_length]
theorem szs_run : ∀ (ks : List Int) (st : List (Int × Int)) (i : Int), szs (st.map (·.2)) i ks = (run st i ks).map (fun p => szOf i p.1) := by
  intro ks
  induction ks with
  | nil => intro st i; rfl
  | cons k ks ih =>
    intro st i
    by_cases hb : k < 0 ∨ (st.length : Int) < k
    · rw [run_bad _ _ _ _ hb, szs_bad _ _ _ _ (by simpa using hb)]; rfl
    · rw [run_ok _ _ _ _ hb, szs_ok _ _ _ _ (by simpa using hb) _ (szs_b st i k hb)]
      have := ih (st.take (st.length - k.toNat) ++ [foldKids (1, i) (st.drop (st.length - k.toNat))]) (i + 1)
      simp only [List.map_append, List.map_take, List.map_cons, List.map_nil] at this
      rw [List.length_map, this, Option.map_map, Option.map_map]
      congr 1

/-! ### the chain of open terms -/
/-- rs: the stack, its top first; e: the root of the top; Y: what is told of all nodes. -/
def PCh (Y : List (Int × Int)) : List (Int × Int) → Int → Prop
  | [], _ => True
  | x :: s, e => 0 ≤ e ∧ Y[e.toNat]? = some x ∧ PCh Y s (x.2 - 1)
def ends : List (Int × Int) → Int → Int
  | [], e => e
  | x :: s, _ => ends s (x.2 - 1)
def rts : List (Int × Int) → Int → List Int
  | [], _ => []
  | x :: s, e => e :: rts s (x.2 - 1)
theorem PCh.take {Y : List (Int × Int)} : ∀ {rs : List (Int × Int)} {e : Int} (k : Nat), PCh Y rs e → PCh Y (rs.take k) e
  | [], _, k, _ => by simp [PCh]
  | x :: s, e, 0, _ => by simp [PCh]
  | x :: s, e, k + 1, h => ⟨h.1, h.2.1, PCh.take k h.2.2⟩
theorem PCh.drop {Y : List (Int × Int)} : ∀ {rs : List (Int × Int)} {e : Int} (k : Nat), PCh Y rs e → PCh Y (rs.drop k) (ends (rs.take k) e) ∧ ends (rs.drop k) (ends (rs.take k) e) = ends rs e
  | [], _, k, _ => by simp [PCh, ends]
  | x :: s, e, 0, h => by simpa [ends] using h
  | x :: s, e, k + 1, h => by simpa [ends] using PCh.drop k h.2.2
theorem ends_last : ∀ (rs : List (Int × Int)) (e : Int), ends rs e = match rs.getLast? with | none => e | some x => x.2 - 1
  | [], e => rfl
  | [x], e => rfl
  | x :: y :: s, e => by
    rw [ends, ends_last (y :: s) (x.2 - 1), List.getLast?_cons_cons]
    cases h : (y :: s).getLast? with
    | none => simp at h
    | some z => rfl
theorem rts_len : ∀ (rs : List (Int × Int)) (e : Int), (rts rs e).length = rs.length
  | [], _ => rfl
  | x :: s, e => by simp [rts, rts_len s (x.2 - 1)]

/-- What holds ahead of node i: the nodes' depths and beginnings, the chain. -/
structure At (Y : List (Int × Int)) (st : List (Int × Int)) (i : Nat) : Prop where
  ch : PCh Y st.reverse ((i : Int) - 1)
  fin : ends st.reverse ((i : Int) - 1) = -1
  bd : ∀ e ∈ st, 1 ≤ e.1 ∧ e.1 ≤ i ∧ 0 ≤ e.2 ∧ e.2 < i
theorem foldKids_fst : ∀ (xs : List (Int × Int)) (d : Int) (i : Int), (foldKids (d + 1, i) xs).1 = (xs.map (·.1)).foldl (fun d r => if d < r then r else d) d + 1 := by
  have one : ∀ (d : Int) (i : Int) (x : Int × Int) (b : Bool), (foldKid (d + 1, i) x b).1 = (if d < x.1 then x.1 else d) + 1 := by
    intro d i x b
    simp only [foldKid]
    by_cases h : d < x.1
    · rw [if_pos (by omega), if_pos h]
    · rw [if_neg (by omega), if_neg h]
  have key : ∀ (r : List (Int × Int)) (w : Int × Int) (d : Int), w.1 = d + 1 → (r.foldl (fun w kid => foldKid w kid false) w).1 = (r.map (·.1)).foldl (fun d r => if d < r then r else d) d + 1 := by
    intro r
    induction r with
    | nil => intro w d h; exact h
    | cons y r ih =>
      intro w d h
      rw [List.foldl_cons, List.map_cons, List.foldl_cons]
      refine ih _ _ ?_
      obtain ⟨w1, w2⟩ := w
      simp only at h
      subst h
      exact one d w2 y false
  intro xs d i
  cases xs with
  | nil => rfl
  | cons x r =>
    rw [foldKids, List.map_cons, List.foldl_cons]
    exact key r _ _ (one d i x true)
theorem foldmax_bd : ∀ (l : List Int) (d B : Int), 0 ≤ d → d ≤ B → (∀ x ∈ l, x ≤ B) → 0 ≤ l.foldl (fun d r => if d < r then r else d) d ∧ l.foldl (fun d r => if d < r then r else d) d ≤ B := by
  intro l
  induction l with
  | nil => intro d B h0 h1 _; exact ⟨h0, h1⟩
  | cons x l ih =>
    intro d B h0 h1 hx
    rw [List.foldl_cons]
    have := hx x (by simp)
    refine ih _ B ?_ ?_ (fun y hy => hx y (List.mem_cons_of_mem _ hy)) <;> split <;> omega
theorem At.next {Y st : List (Int × Int)} {i kn : Nat} (h : At Y st i) (hk : kn ≤ st.length) (hy : Y[i]? = some (foldKids (1, (i : Int)) (st.drop (st.length - kn)))) :
    At Y (st.take (st.length - kn) ++ [foldKids (1, (i : Int)) (st.drop (st.length - kn))]) (i + 1) := by
  have hrev : st.reverse.drop kn = (st.take (st.length - kn)).reverse := by rw [List.drop_reverse]
  have hrt : st.reverse.take kn = (st.drop (st.length - kn)).reverse := by rw [List.take_reverse]
  have hb : (foldKids (1, (i : Int)) (st.drop (st.length - kn))).2 - 1 = ends (st.reverse.take kn) ((i : Int) - 1) := by
    rw [foldKids_from, ends_last, hrt, List.getLast?_reverse]
    cases st.drop (st.length - kn) with
    | nil => rfl
    | cons x r => rfl
  obtain ⟨hd1, hd2⟩ := PCh.drop kn h.ch
  have ecast : (((i + 1 : Nat) : Int) - 1) = (i : Int) := by omega
  refine ⟨?_, ?_, ?_⟩
  · rw [List.reverse_append, List.reverse_singleton, List.singleton_append, ← hrev, ecast]
    exact ⟨by omega, by rw [Int.toNat_natCast]; exact hy, by rw [hb]; exact hd1⟩
  · rw [List.reverse_append, List.reverse_singleton, List.singleton_append, ← hrev, ends, hb, hd2, h.fin]
  · intro e he
    rcases List.mem_append.1 he with he | he
    · have := h.bd e (List.mem_of_mem_take he); omega
    · rw [List.mem_singleton.1 he]
      have h1 := foldKids_fst (st.drop (st.length - kn)) 0 (i : Int)
      have h2 := foldmax_bd ((st.drop (st.length - kn)).map (·.1)) 0 (i : Int) (by omega) (by omega) (fun x hx => by
        obtain ⟨y, hy, rfl⟩ := List.mem_map.1 hx
        exact (h.bd y (List.mem_of_mem_drop hy)).2.1)
      have h3 := foldKids_snd (1, (i : Int)) i (st.drop (st.length - kn)) (by simp) (fun e he => (h.bd e (List.mem_of_mem_drop he)).2.2)
      rw [Int.zero_add] at h1
      omega
end Go.Proofs.Ytoioineibfldcaa.K
end

section
-- Printed by wip/tools/stubprint.py, a driver of mine over the kit's print.py: some callees are proved by hand.
namespace Go.Proofs.Ytoioineibfldcaa.K
open Go.RowKit Go.Proofs.YtoioineibfldcaaW.PrintWords Go.Proofs.YtoioineibfldcaaW.PrintLast Go.Proofs.YtoioineibfldcaaW.PrintMore
attribute [local go_sem] max2_int min2_int max_two min_two max_three min_three max_four min_four   -- for this text's walks alone
set_option linter.unusedVariables false
set_option linter.unusedSimpArgs false

/-! ### laws_szNode: function 22 -/
def laws_szNode.f (a0_0 : Int) (a0_1 : Int) (a0_2 : ByteArray) (a0_3 : Int) (a0_4 : Int) (a1 : Int) : Option (Int) := if (wrap64 (a1 - (a0_2.size : Int))) < 0 then (some (-1)) else (some (wrap64 (a1 - (a0_2.size : Int))))
set_option maxHeartbeats 8000000 in
set_option maxRecDepth 100000 in
theorem laws_szNode.calls (a0_0 : Int) (a0_1 : Int) (a0_2 : ByteArray) (a0_3 : Int) (a0_4 : Int) (a1 : Int) (r : Int) (w : World) (h : laws_szNode.f a0_0 a0_1 a0_2 a0_3 a0_4 a1 = some r) :
    Calls Try.prog 22 #[.agg #[.int .i64 a0_0, .int .i64 a0_1, .string a0_2, .int .i64 a0_3, .int .i64 a0_4], .int .i64 a1] w fun e w' => e = .returned (.int .i64 r) ∧ Below w.heap.size w w' := by
  have hu36 := Try.underlying36
  have HB := Aside0.mk (Below.refl w.heap.size w)
  have H : (if (wrap64 (a1 - (a0_2.size : Int))) < 0 then (some (-1)) else (some (wrap64 (a1 - (a0_2.size : Int))))) = some r := h
  clear h
  by_cases c3 : (wrap64 (a1 - (a0_2.size : Int))) < 0
  · rw [if_pos c3] at H
    have c3b0 : decide ((wrap64 (a1 - (a0_2.size : Int))) < 0) = true := decide_eq_true c3
    clear c3
    obtain rfl := Option.some.inj H
    go_enter Try.func22, Try.ntmps22
    go_wp2_with (first | ((with_reducible refine gate_dst (N := 2) rfl ?_); refine box_event ?hg (N := 2) ?hd (cs := #[.int .i64 a0_0, .int .i64 a0_1, .string a0_2, .int .i64 a0_3, .int .i64 a0_4]) (t := 36) ?hr ?_; (case hd => rfl); (case hg => rfl); (case hr => first | (go_simp; done) | (go_simp; rfl)); intro gb101 hg w4 hbox hb; have n0_ := Aside0.mk (below_step (by repeat (first | (with_reducible first | exact HB.out | apply below_alloc | apply pw_below_drewN | apply below_drew1) | exact HB.out)) hb); have n1_ := Aside0.mk (hbox); have n2_ := Aside0.mk ((by rw [hg]; exact (below_size (by repeat (first | (with_reducible first | exact HB.out | apply below_alloc | apply pw_below_drewN | apply below_drew1) | exact HB.out))) : w.heap.size ≤ gb101)); have n3_ := Aside0.mk ((by rw [hg]; exact (below_size (by repeat (first | (with_reducible first | exact HB.out | apply below_alloc | apply pw_below_drewN | apply below_drew1) | exact HB.out))) : w.heap.size ≤ gb101)); clear HB; have HB := n0_; have BK101 := n1_; have GW101 := n2_; have GE101 := n3_; clear n0_ n1_ n2_ n3_; clear hb hbox hg; have hcz5_0 : w4.cell? ⟨gb101, 0, none⟩ = some (.int .i64 a0_0) := (blk_cell BK101.out 0).trans rfl; have hcz5_1 : w4.cell? ⟨gb101, 1, none⟩ = some (.int .i64 a0_1) := (blk_cell BK101.out 1).trans rfl; have hcz5_2 : w4.cell? ⟨gb101, 2, none⟩ = some (.string a0_2) := (blk_cell BK101.out 2).trans rfl; have hcz5_3 : w4.cell? ⟨gb101, 3, none⟩ = some (.int .i64 a0_3) := (blk_cell BK101.out 3).trans rfl; have hcz5_4 : w4.cell? ⟨gb101, 4, none⟩ = some (.int .i64 a0_4) := (blk_cell BK101.out 4).trans rfl; have hfz5_0 := blk_frozen BK101.out 0; have hfz5_1 := blk_frozen BK101.out 1; have hfz5_2 := blk_frozen BK101.out 2; have hfz5_3 := blk_frozen BK101.out 3; have hfz5_4 := blk_frozen BK101.out 4))
    go_ret
    exact ⟨by first | rfl | (simp [errW_none, errW_some] <;> rfl) | (simp [*, errW_none, errW_some] <;> rfl), by repeat (first | (with_reducible first | exact HB.out | apply below_alloc | apply pw_below_drewN | apply below_drew1 | refine below_set ?_ GE101.out) | exact HB.out)⟩
  · rw [if_neg c3] at H
    have c3b0 : decide ((wrap64 (a1 - (a0_2.size : Int))) < 0) = false := decide_eq_false c3
    clear c3
    obtain rfl := Option.some.inj H
    go_enter Try.func22, Try.ntmps22
    go_wp2_with (first | ((with_reducible refine gate_dst (N := 2) rfl ?_); refine box_event ?hg (N := 2) ?hd (cs := #[.int .i64 a0_0, .int .i64 a0_1, .string a0_2, .int .i64 a0_3, .int .i64 a0_4]) (t := 36) ?hr ?_; (case hd => rfl); (case hg => rfl); (case hr => first | (go_simp; done) | (go_simp; rfl)); intro gb101 hg w6 hbox hb; have n0_ := Aside0.mk (below_step (by repeat (first | (with_reducible first | exact HB.out | apply below_alloc | apply pw_below_drewN | apply below_drew1) | exact HB.out)) hb); have n1_ := Aside0.mk (hbox); have n2_ := Aside0.mk ((by rw [hg]; exact (below_size (by repeat (first | (with_reducible first | exact HB.out | apply below_alloc | apply pw_below_drewN | apply below_drew1) | exact HB.out))) : w.heap.size ≤ gb101)); have n3_ := Aside0.mk ((by rw [hg]; exact (below_size (by repeat (first | (with_reducible first | exact HB.out | apply below_alloc | apply pw_below_drewN | apply below_drew1) | exact HB.out))) : w.heap.size ≤ gb101)); clear HB; have HB := n0_; have BK101 := n1_; have GW101 := n2_; have GE101 := n3_; clear n0_ n1_ n2_ n3_; clear hb hbox hg; have hcz7_0 : w6.cell? ⟨gb101, 0, none⟩ = some (.int .i64 a0_0) := (blk_cell BK101.out 0).trans rfl; have hcz7_1 : w6.cell? ⟨gb101, 1, none⟩ = some (.int .i64 a0_1) := (blk_cell BK101.out 1).trans rfl; have hcz7_2 : w6.cell? ⟨gb101, 2, none⟩ = some (.string a0_2) := (blk_cell BK101.out 2).trans rfl; have hcz7_3 : w6.cell? ⟨gb101, 3, none⟩ = some (.int .i64 a0_3) := (blk_cell BK101.out 3).trans rfl; have hcz7_4 : w6.cell? ⟨gb101, 4, none⟩ = some (.int .i64 a0_4) := (blk_cell BK101.out 4).trans rfl; have hfz7_0 := blk_frozen BK101.out 0; have hfz7_1 := blk_frozen BK101.out 1; have hfz7_2 := blk_frozen BK101.out 2; have hfz7_3 := blk_frozen BK101.out 3; have hfz7_4 := blk_frozen BK101.out 4))
    go_ret
    exact ⟨by first | rfl | (simp [errW_none, errW_some] <;> rfl) | (simp [*, errW_none, errW_some] <;> rfl), by repeat (first | (with_reducible first | exact HB.out | apply below_alloc | apply pw_below_drewN | apply below_drew1 | refine below_set ?_ GE101.out) | exact HB.out)⟩

end Go.Proofs.Ytoioineibfldcaa.K
end

section
-- Printed by wip/tools/stubprint.py, a driver of mine over the kit's print.py: some callees are proved by hand.
namespace Go.Proofs.Ytoioineibfldcaa.K
open Go.RowKit Go.Proofs.YtoioineibfldcaaW.PrintWords Go.Proofs.YtoioineibfldcaaW.PrintLast Go.Proofs.YtoioineibfldcaaW.PrintMore
attribute [local go_sem] max2_int min2_int max_two min_two max_three min_three max_four min_four   -- for this text's walks alone
set_option linter.unusedVariables false
set_option linter.unusedSimpArgs false

/-! ### laws_szNodeS: function 11 -/
def laws_szNodeS.l0 : Nat → List (S36) → Int → Int → Option (Int)
  | 0, _, _, _ => none
  | k + 1, x0, x1, x5 => if x5 < (x0.length : Int) then (if 0 ≤ x5 then ((laws_szNode.f ((rd_T36 x0 x5).f0) ((rd_T36 x0 x5).f1) ((rd_T36 x0 x5).f2) ((rd_T36 x0 x5).f3) ((rd_T36 x0 x5).f4) x1).bind fun t103 => (if t103 < 0 then (some (-1)) else (laws_szNodeS.l0 k x0 t103 (wrap64 (x5 + 1))))) else (none)) else (some x1)
def laws_szNodeS.f (k : Nat) (l0 : List (S36)) (a1 : Int) : Option (Int) := if (wrap64 (a1 - (l0.length : Int))) < 0 then (some (-1)) else (laws_szNodeS.l0 k l0 (wrap64 (a1 - (l0.length : Int))) 0)
theorem laws_szNodeS.mono_l : ∀ k, (∀ y0 y1 y2, LeO (laws_szNodeS.l0 k y0 y1 y2) (laws_szNodeS.l0 (k + 1) y0 y1 y2))
  | 0 => fun _ _ _ r h => by simp [laws_szNodeS.l0] at h
  | k + 1 => by
    have ih0 := laws_szNodeS.mono_l k
    · intro y0 y1 y2
      unfold laws_szNodeS.l0
      repeat' first
      | (with_reducible exact ih0 _ _ _)
      | (with_reducible exact LeO.refl _)
      | (with_reducible exact LeO.none _)
      | (with_reducible refine LeO.ite ?_ ?_)
      | (with_reducible refine LeO.bind ?_ (fun _ => ?_))
      | exact ih0 _ _ _
      | exact LeO.none _
      | refine LeO.ite ?_ ?_
      | refine LeO.bind ?_ (fun _ => ?_)
theorem laws_szNodeS.mono : ∀ a0 a1 k, LeO (laws_szNodeS.f k a0 a1) (laws_szNodeS.f (k + 1) a0 a1) := by
  intro a0 a1 k
  have ih0 := laws_szNodeS.mono_l k
  unfold laws_szNodeS.f
  repeat' first
      | (with_reducible exact ih0 _ _ _)
      | (with_reducible exact LeO.refl _)
      | (with_reducible exact LeO.none _)
      | (with_reducible refine LeO.ite ?_ ?_)
      | (with_reducible refine LeO.bind ?_ (fun _ => ?_))
      | exact ih0 _ _ _
      | exact LeO.none _
      | refine LeO.ite ?_ ?_
      | refine LeO.bind ?_ (fun _ => ?_)
set_option maxHeartbeats 8000000 in
set_option maxRecDepth 100000 in
theorem laws_szNodeS.calls (k : Nat) (A0 : Option Addr) (c0 : Nat) (l0 : List (S36)) (a1 : Int) (r : Int) (w : World) (hr0 : Kd.C k36 w A0 l0.length l0) (hc0 : l0.length ≤ c0) (h : laws_szNodeS.f k l0 a1 = some r) :
    Calls Try.prog 11 #[.slice A0 l0.length c0, .int .i64 a1] w fun e w' => e = .returned (.int .i64 r) ∧ Below w.heap.size w w' := by
  have hu36 := Try.underlying36
  have HR0 := Aside0.mk hr0
  have HC0 := Aside0.mk hc0
  clear hr0 hc0
  have HB := Aside0.mk (Below.refl w.heap.size w)
  have H : (if (wrap64 (a1 - (l0.length : Int))) < 0 then (some (-1)) else (laws_szNodeS.l0 k l0 (wrap64 (a1 - (l0.length : Int))) 0)) = some r := h
  clear h
  by_cases c3 : (wrap64 (a1 - (l0.length : Int))) < 0
  · rw [if_pos c3] at H
    have c3b0 : decide ((wrap64 (a1 - (l0.length : Int))) < 0) = true := decide_eq_true c3
    clear c3
    obtain rfl := Option.some.inj H
    go_enter Try.func11, Try.ntmps11
    go_wp2
    go_ret
    exact ⟨by first | rfl | (simp [errW_none, errW_some] <;> rfl) | (simp [*, errW_none, errW_some] <;> rfl), by repeat (first | (with_reducible first | exact HB.out | apply below_alloc | apply pw_below_drewN | apply below_drew1) | exact HB.out)⟩
  · rw [if_neg c3] at H
    have c3b0 : decide ((wrap64 (a1 - (l0.length : Int))) < 0) = false := decide_eq_false c3
    clear c3
    have H' := Aside0.mk H
    clear H
    go_enter Try.func11, Try.ntmps11
    go_wp2
    go_loopg [1, 5] k (fun kq v1 v5 w' => ∃ (x1_1 : Int) (x5_1 : Int), v1 = .int .i64 x1_1 ∧ v5 = .int .i64 x5_1 ∧ Aside0 (laws_szNodeS.l0 kq l0 x1_1 x5_1 = some r) ∧ Aside0 (kq ≤ k) ∧ Aside0 (Below w.heap.size w w'))
    case atStart => exact ⟨(wrap64 (a1 - (l0.length : Int))), (0), (by first | rfl | (simp; done) | (simp [*]; done)), (by first | rfl | (simp; done) | (simp [*]; done)), H', ⟨Nat.le_refl _⟩, ⟨by repeat (first | (with_reducible first | exact HB.out | apply below_alloc | apply pw_below_drewN | apply below_drew1) | exact HB.out)⟩⟩
    case round =>
      clear H'
      try clear c1
      try clear p2
      try clear c3
      try clear c3b0
      obtain ⟨x1_1, x5_1, rfl, rfl, HA, HK1, HB⟩ := hrel
      cases gk with
      | zero => exact absurd HA.out (by simp [laws_szNodeS.l0])
      | succ k1 =>
        have H := HA.out
        clear HA
        simp only [laws_szNodeS.l0] at H
        by_cases c4 : x5_1 < (l0.length : Int)
        · rw [if_pos c4] at H
          have c4b0 : decide (x5_1 < (l0.length : Int)) = true := decide_eq_true c4
          clear c4
          by_cases c5 : 0 ≤ x5_1
          · rw [if_pos c5] at H
            have c5b0 : decide (0 ≤ x5_1) = true := decide_eq_true c5
            clear c5
            replace H := Option.bind_eq_some_iff.mp H
            obtain ⟨t103, A60, H⟩ := H
            replace H : (if t103 < 0 then (some (-1)) else (laws_szNodeS.l0 k1 l0 t103 (wrap64 (x5_1 + 1)))) = some r := H
            have A6 := Aside0.mk A60
            clear A60
            by_cases c7 : t103 < 0
            · rw [if_pos c7] at H
              have c7b0 : decide (t103 < 0) = true := decide_eq_true c7
              clear c7
              obtain rfl := Option.some.inj H
              have p102 : 0 ≤ (x5_1 : Int) := of_decide_eq_true (by first | (with_reducible assumption) | assumption)
              have q102 : x5_1 < (l0.length : Int) := of_decide_eq_true (by first | (with_reducible assumption) | assumption)
              obtain ⟨ad102, e102, hx102_0, hx102_1, hx102_2, hx102_3, hx102_4⟩ := at_T36 HR0.out x5_1 p102 q102
              cases e102
              replace hx102_0 := (HB.out.cell (World.block_lt_of_cell? w _ hx102_0)).trans hx102_0
              replace hx102_1 := (HB.out.cell (World.block_lt_of_cell? w _ hx102_1)).trans hx102_1
              replace hx102_2 := (HB.out.cell (World.block_lt_of_cell? w _ hx102_2)).trans hx102_2
              replace hx102_3 := (HB.out.cell (World.block_lt_of_cell? w _ hx102_3)).trans hx102_3
              replace hx102_4 := (HB.out.cell (World.block_lt_of_cell? w _ hx102_4)).trans hx102_4
              replace p102 := eq_true p102
              replace q102 := eq_true q102
              go_wp2_with (first | ((with_reducible refine gate_callee (f := 22) rfl ?_); refine goesL_ (some 23) rfl rfl Try.func22 (by kernel_rfl) rfl #[.agg #[.int .i64 ((rd_T36 l0 x5_1).f0), .int .i64 ((rd_T36 l0 x5_1).f1), .string ((rd_T36 l0 x5_1).f2), .int .i64 ((rd_T36 l0 x5_1).f3), .int .i64 ((rd_T36 l0 x5_1).f4)], .int .i64 x1_1] rfl (by (try simp only [List.map_toArray, List.map_cons, List.map_nil]); first | done | rfl | (simp only [List.length_drop, List.length_take]; rfl)) ?_; (with_reducible refine (laws_szNode.calls ((rd_T36 l0 x5_1).f0) ((rd_T36 l0 x5_1).f1) ((rd_T36 l0 x5_1).f2) ((rd_T36 l0 x5_1).f3) ((rd_T36 l0 x5_1).f4) x1_1 t103 _ A6.out).mono ?_); rintro e w8 ⟨rfl, hb⟩; refine ⟨_, rfl, ?_⟩; have n0_ := Aside0.mk (below_step (by repeat (first | (with_reducible first | exact HB.out | apply below_alloc | apply pw_below_drewN | apply below_drew1) | exact HB.out)) hb); clear HB; have HB := n0_; clear n0_; (try clear hb); (try clear hb2); (try clear hk); (try clear hi)))
              go_ret
              exact ⟨by first | rfl | (simp [errW_none, errW_some] <;> rfl) | (simp [*, errW_none, errW_some] <;> rfl), by repeat (first | (with_reducible first | exact HB.out | apply below_alloc | apply pw_below_drewN | apply below_drew1) | exact HB.out)⟩
            · rw [if_neg c7] at H
              have c7b0 : decide (t103 < 0) = false := decide_eq_false c7
              clear c7
              have H' := Aside0.mk H
              clear H
              have p102 : 0 ≤ (x5_1 : Int) := of_decide_eq_true (by first | (with_reducible assumption) | assumption)
              have q102 : x5_1 < (l0.length : Int) := of_decide_eq_true (by first | (with_reducible assumption) | assumption)
              obtain ⟨ad102, e102, hx102_0, hx102_1, hx102_2, hx102_3, hx102_4⟩ := at_T36 HR0.out x5_1 p102 q102
              cases e102
              replace hx102_0 := (HB.out.cell (World.block_lt_of_cell? w _ hx102_0)).trans hx102_0
              replace hx102_1 := (HB.out.cell (World.block_lt_of_cell? w _ hx102_1)).trans hx102_1
              replace hx102_2 := (HB.out.cell (World.block_lt_of_cell? w _ hx102_2)).trans hx102_2
              replace hx102_3 := (HB.out.cell (World.block_lt_of_cell? w _ hx102_3)).trans hx102_3
              replace hx102_4 := (HB.out.cell (World.block_lt_of_cell? w _ hx102_4)).trans hx102_4
              replace p102 := eq_true p102
              replace q102 := eq_true q102
              go_wp2_with (first | ((with_reducible refine gate_callee (f := 22) rfl ?_); refine goesL_ (some 23) rfl rfl Try.func22 (by kernel_rfl) rfl #[.agg #[.int .i64 ((rd_T36 l0 x5_1).f0), .int .i64 ((rd_T36 l0 x5_1).f1), .string ((rd_T36 l0 x5_1).f2), .int .i64 ((rd_T36 l0 x5_1).f3), .int .i64 ((rd_T36 l0 x5_1).f4)], .int .i64 x1_1] rfl (by (try simp only [List.map_toArray, List.map_cons, List.map_nil]); first | done | rfl | (simp only [List.length_drop, List.length_take]; rfl)) ?_; (with_reducible refine (laws_szNode.calls ((rd_T36 l0 x5_1).f0) ((rd_T36 l0 x5_1).f1) ((rd_T36 l0 x5_1).f2) ((rd_T36 l0 x5_1).f3) ((rd_T36 l0 x5_1).f4) x1_1 t103 _ A6.out).mono ?_); rintro e w9 ⟨rfl, hb⟩; refine ⟨_, rfl, ?_⟩; have n0_ := Aside0.mk (below_step (by repeat (first | (with_reducible first | exact HB.out | apply below_alloc | apply pw_below_drewN | apply below_drew1) | exact HB.out)) hb); clear HB; have HB := n0_; clear n0_; (try clear hb); (try clear hb2); (try clear hk); (try clear hi)))
              go_roundg k1
              case measure => have := HK1.out; omega
              case rel => exact ⟨(t103), (wrap64 (x5_1 + 1)), (by first | rfl | (simp; done) | (simp [*]; done)), (by first | rfl | (simp; done) | (simp [*]; done)), H', ⟨by have := HK1.out; omega⟩, ⟨by repeat (first | (with_reducible first | exact HB.out | apply below_alloc | apply pw_below_drewN | apply below_drew1) | exact HB.out)⟩⟩
          · rw [if_neg c5] at H
            exact absurd H (by simp)
        · rw [if_neg c4] at H
          have c4b0 : decide (x5_1 < (l0.length : Int)) = false := decide_eq_false c4
          clear c4
          obtain rfl := Option.some.inj H
          go_wp2
          go_ret
          exact ⟨by first | rfl | (simp [errW_none, errW_some] <;> rfl) | (simp [*, errW_none, errW_some] <;> rfl), by repeat (first | (with_reducible first | exact HB.out | apply below_alloc | apply pw_below_drewN | apply below_drew1) | exact HB.out)⟩

end Go.Proofs.Ytoioineibfldcaa.K
end

section
-- Printed by wip/tools/stubprint.py, a driver of mine over the kit's print.py: some callees are proved by hand.
namespace Go.Proofs.Ytoioineibfldcaa.K
open Go.RowKit Go.Proofs.YtoioineibfldcaaW.PrintWords Go.Proofs.YtoioineibfldcaaW.PrintLast Go.Proofs.YtoioineibfldcaaW.PrintMore
attribute [local go_sem] max2_int min2_int max_two min_two max_three min_three max_four min_four   -- for this text's walks alone
set_option linter.unusedVariables false
set_option linter.unusedSimpArgs false

/-! ### laws_toNode: function 25 -/
def laws_toNode.f (a0_0 : Int) (a0_1 : Int) (a0_2 : ByteArray) (a0_3 : Int) (a0_4 : Int) : Option (Int × Int × ByteArray × Int × Int) := some (a0_0, a0_1, a0_2, a0_3, a0_4)
set_option maxHeartbeats 8000000 in
set_option maxRecDepth 100000 in
theorem laws_toNode.calls (a0_0 : Int) (a0_1 : Int) (a0_2 : ByteArray) (a0_3 : Int) (a0_4 : Int) (r1 : Int) (r2 : Int) (r3 : ByteArray) (r4 : Int) (r5 : Int) (w : World) (h : laws_toNode.f a0_0 a0_1 a0_2 a0_3 a0_4 = some (r1, r2, r3, r4, r5)) :
    Calls Try.prog 25 #[.agg #[.int .i64 a0_0, .int .i64 a0_1, .string a0_2, .int .i64 a0_3, .int .i64 a0_4]] w fun e w' => e = .returned (.agg #[.int .i64 r1, .int .i64 r2, .string r3, .int .i64 r4, .int .i64 r5]) ∧ Below w.heap.size w w' := by
  have hu36 := Try.underlying36
  have hu41 := Try.underlying41
  have HB := Aside0.mk (Below.refl w.heap.size w)
  have H : (some (a0_0, a0_1, a0_2, a0_3, a0_4)) = some (r1, r2, r3, r4, r5) := h
  clear h
  simp only [Option.some.injEq, Prod.mk.injEq] at H
  obtain ⟨rfl, rfl, rfl, rfl, rfl⟩ := H
  go_enter Try.func25, Try.ntmps25
  go_wp2_with (first | ((with_reducible refine gate_dst (N := 1) rfl ?_); refine box_event ?hg (N := 1) ?hd (cs := #[.int .i64 a0_0, .int .i64 a0_1, .string a0_2, .int .i64 a0_3, .int .i64 a0_4]) (t := 36) ?hr ?_; (case hd => rfl); (case hg => rfl); (case hr => first | (go_simp; done) | (go_simp; rfl)); intro gb118 hg w2 hbox hb; have n0_ := Aside0.mk (below_step (by repeat (first | (with_reducible first | exact HB.out | apply below_alloc | apply pw_below_drewN | apply below_drew1) | exact HB.out)) hb); have n1_ := Aside0.mk (hbox); have n2_ := Aside0.mk ((by rw [hg]; exact (below_size (by repeat (first | (with_reducible first | exact HB.out | apply below_alloc | apply pw_below_drewN | apply below_drew1) | exact HB.out))) : w.heap.size ≤ gb118)); have n3_ := Aside0.mk ((by rw [hg]; exact (below_size (by repeat (first | (with_reducible first | exact HB.out | apply below_alloc | apply pw_below_drewN | apply below_drew1) | exact HB.out))) : w.heap.size ≤ gb118)); clear HB; have HB := n0_; have BK118 := n1_; have GW118 := n2_; have GE118 := n3_; clear n0_ n1_ n2_ n3_; clear hb hbox hg) | ((with_reducible refine gate_dst (N := 2) rfl ?_); refine box_event ?hg (N := 2) ?hd (cs := #[.int .i64 0, .int .i64 0, .string (⟨#[]⟩ : ByteArray), .int .i64 0, .int .i64 0]) (t := 41) ?hr ?_; (case hd => rfl); (case hg => rfl); (case hr => first | (go_simp; done) | (go_simp; rfl)); intro gb119 hg w3 hbox hb; have n0_ := Aside0.mk (blk_below (g := gb118) (o := .cells #[.int .i64 a0_0, .int .i64 a0_1, .string a0_2, .int .i64 a0_3, .int .i64 a0_4] 36 (0, 0)) (by (with_reducible repeat (first | refine blk_drewN ?_ _ | refine blk_drew ?_ | refine blk_alloc ?_ _)); exact BK118.out) hb); have n1_ := Aside0.mk (below_step (by repeat (first | (with_reducible first | exact HB.out | apply below_alloc | apply pw_below_drewN | apply below_drew1 | refine below_set ?_ GE118.out) | exact HB.out)) hb); have n2_ := Aside0.mk (hbox); have n3_ := Aside0.mk ((by rw [hg]; exact (below_size (by repeat (first | (with_reducible first | exact HB.out | apply below_alloc | apply pw_below_drewN | apply below_drew1 | refine below_set ?_ GE118.out) | exact HB.out))) : w.heap.size ≤ gb119)); have n4_ := Aside0.mk ((by rw [hg]; exact (below_size (by repeat (first | (with_reducible first | exact HB.out | apply below_alloc | apply pw_below_drewN | apply below_drew1 | refine below_set ?_ GE118.out) | exact HB.out))) : w.heap.size ≤ gb119)); have n5_ := Aside0.mk ((by rw [hg]; exact Nat.ne_of_lt (blk_lt (g := gb118) (o := .cells #[.int .i64 a0_0, .int .i64 a0_1, .string a0_2, .int .i64 a0_3, .int .i64 a0_4] 36 (0, 0)) (by (with_reducible repeat (first | refine blk_drewN ?_ _ | refine blk_drew ?_ | refine blk_alloc ?_ _)); exact BK118.out)) : gb118 ≠ gb119)); have n6_ := Aside0.mk ((by rw [hg]; exact Nat.ne_of_gt (blk_lt (g := gb118) (o := .cells #[.int .i64 a0_0, .int .i64 a0_1, .string a0_2, .int .i64 a0_3, .int .i64 a0_4] 36 (0, 0)) (by (with_reducible repeat (first | refine blk_drewN ?_ _ | refine blk_drew ?_ | refine blk_alloc ?_ _)); exact BK118.out)) : gb119 ≠ gb118)); clear BK118; clear HB; have BK118 := n0_; have HB := n1_; have BK119 := n2_; have GW119 := n3_; have GE119 := n4_; have NB118_119 := n5_; have NB119_118 := n6_; clear n0_ n1_ n2_ n3_ n4_ n5_ n6_; clear hb hbox hg) | ((with_reducible refine gate_dst (N := 3) rfl ?_); refine box_event ?hg (N := 3) ?hd (cs := #[.int .i64 0, .int .i64 0, .string (⟨#[]⟩ : ByteArray), .int .i64 0, .int .i64 0]) (t := 41) ?hr ?_; (case hd => rfl); (case hg => rfl); (case hr => first | (go_simp; done) | (go_simp; rfl)); intro gb120 hg w4 hbox hb; have n0_ := Aside0.mk (blk_below (g := gb118) (o := .cells #[.int .i64 a0_0, .int .i64 a0_1, .string a0_2, .int .i64 a0_3, .int .i64 a0_4] 36 (0, 0)) (by (with_reducible repeat (first | refine blk_drewN ?_ _ | refine blk_drew ?_ | refine blk_alloc ?_ _)); exact BK118.out) hb); have n1_ := Aside0.mk (blk_below (g := gb119) (o := .cells #[.int .i64 0, .int .i64 0, .string (⟨#[]⟩ : ByteArray), .int .i64 0, .int .i64 0] 41 (0, 0)) (by (with_reducible repeat (first | refine blk_drewN ?_ _ | refine blk_drew ?_ | refine blk_alloc ?_ _)); exact BK119.out) hb); have n2_ := Aside0.mk (below_step (by repeat (first | (with_reducible first | exact HB.out | apply below_alloc | apply pw_below_drewN | apply below_drew1 | refine below_set ?_ GE118.out | refine below_set ?_ GE119.out) | exact HB.out)) hb); have n3_ := Aside0.mk (hbox); have n4_ := Aside0.mk ((by rw [hg]; exact (below_size (by repeat (first | (with_reducible first | exact HB.out | apply below_alloc | apply pw_below_drewN | apply below_drew1 | refine below_set ?_ GE118.out | refine below_set ?_ GE119.out) | exact HB.out))) : w.heap.size ≤ gb120)); have n5_ := Aside0.mk ((by rw [hg]; exact (below_size (by repeat (first | (with_reducible first | exact HB.out | apply below_alloc | apply pw_below_drewN | apply below_drew1 | refine below_set ?_ GE118.out | refine below_set ?_ GE119.out) | exact HB.out))) : w.heap.size ≤ gb120)); have n6_ := Aside0.mk ((by rw [hg]; exact Nat.ne_of_lt (blk_lt (g := gb118) (o := .cells #[.int .i64 a0_0, .int .i64 a0_1, .string a0_2, .int .i64 a0_3, .int .i64 a0_4] 36 (0, 0)) (by (with_reducible repeat (first | refine blk_drewN ?_ _ | refine blk_drew ?_ | refine blk_alloc ?_ _)); exact BK118.out)) : gb118 ≠ gb120)); have n7_ := Aside0.mk ((by rw [hg]; exact Nat.ne_of_gt (blk_lt (g := gb118) (o := .cells #[.int .i64 a0_0, .int .i64 a0_1, .string a0_2, .int .i64 a0_3, .int .i64 a0_4] 36 (0, 0)) (by (with_reducible repeat (first | refine blk_drewN ?_ _ | refine blk_drew ?_ | refine blk_alloc ?_ _)); exact BK118.out)) : gb120 ≠ gb118)); have n8_ := Aside0.mk ((by rw [hg]; exact Nat.ne_of_lt (blk_lt (g := gb119) (o := .cells #[.int .i64 0, .int .i64 0, .string (⟨#[]⟩ : ByteArray), .int .i64 0, .int .i64 0] 41 (0, 0)) (by (with_reducible repeat (first | refine blk_drewN ?_ _ | refine blk_drew ?_ | refine blk_alloc ?_ _)); exact BK119.out)) : gb119 ≠ gb120)); have n9_ := Aside0.mk ((by rw [hg]; exact Nat.ne_of_gt (blk_lt (g := gb119) (o := .cells #[.int .i64 0, .int .i64 0, .string (⟨#[]⟩ : ByteArray), .int .i64 0, .int .i64 0] 41 (0, 0)) (by (with_reducible repeat (first | refine blk_drewN ?_ _ | refine blk_drew ?_ | refine blk_alloc ?_ _)); exact BK119.out)) : gb120 ≠ gb119)); clear BK118; clear BK119; clear HB; have BK118 := n0_; have BK119 := n1_; have HB := n2_; have BK120 := n3_; have GW120 := n4_; have GE120 := n5_; have NB118_120 := n6_; have NB120_118 := n7_; have NB119_120 := n8_; have NB120_119 := n9_; clear n0_ n1_ n2_ n3_ n4_ n5_ n6_ n7_ n8_ n9_; clear hb hbox hg; have hnb5 := NB118_119.out; have hnc5 := NB119_118.out; have hnb6 := NB118_120.out; have hnc6 := NB120_118.out; have hcz7_0 : w4.cell? ⟨gb118, 0, none⟩ = some (.int .i64 a0_0) := (blk_cell BK118.out 0).trans rfl; have hcz7_1 : w4.cell? ⟨gb118, 1, none⟩ = some (.int .i64 a0_1) := (blk_cell BK118.out 1).trans rfl; have hcz7_2 : w4.cell? ⟨gb118, 2, none⟩ = some (.string a0_2) := (blk_cell BK118.out 2).trans rfl; have hcz7_3 : w4.cell? ⟨gb118, 3, none⟩ = some (.int .i64 a0_3) := (blk_cell BK118.out 3).trans rfl; have hcz7_4 : w4.cell? ⟨gb118, 4, none⟩ = some (.int .i64 a0_4) := (blk_cell BK118.out 4).trans rfl; have hfz7_0 := blk_frozen BK118.out 0; have hfz7_1 := blk_frozen BK118.out 1; have hfz7_2 := blk_frozen BK118.out 2; have hfz7_3 := blk_frozen BK118.out 3; have hfz7_4 := blk_frozen BK118.out 4; have hnb8 := NB120_119.out; have hnc8 := NB119_120.out; have hcz9_0 : w4.cell? ⟨gb120, 0, none⟩ = some (.int .i64 0) := (blk_cell BK120.out 0).trans rfl; have hcz9_1 : w4.cell? ⟨gb120, 1, none⟩ = some (.int .i64 0) := (blk_cell BK120.out 1).trans rfl; have hcz9_2 : w4.cell? ⟨gb120, 2, none⟩ = some (.string (⟨#[]⟩ : ByteArray)) := (blk_cell BK120.out 2).trans rfl; have hcz9_3 : w4.cell? ⟨gb120, 3, none⟩ = some (.int .i64 0) := (blk_cell BK120.out 3).trans rfl; have hcz9_4 : w4.cell? ⟨gb120, 4, none⟩ = some (.int .i64 0) := (blk_cell BK120.out 4).trans rfl; have hfz9_0 := blk_frozen BK120.out 0; have hfz9_1 := blk_frozen BK120.out 1; have hfz9_2 := blk_frozen BK120.out 2; have hfz9_3 := blk_frozen BK120.out 3; have hfz9_4 := blk_frozen BK120.out 4; have hcz10_0 : w4.cell? ⟨gb119, 0, none⟩ = some (.int .i64 0) := (blk_cell BK119.out 0).trans rfl; have hcz10_1 : w4.cell? ⟨gb119, 1, none⟩ = some (.int .i64 0) := (blk_cell BK119.out 1).trans rfl; have hcz10_2 : w4.cell? ⟨gb119, 2, none⟩ = some (.string (⟨#[]⟩ : ByteArray)) := (blk_cell BK119.out 2).trans rfl; have hcz10_3 : w4.cell? ⟨gb119, 3, none⟩ = some (.int .i64 0) := (blk_cell BK119.out 3).trans rfl; have hcz10_4 : w4.cell? ⟨gb119, 4, none⟩ = some (.int .i64 0) := (blk_cell BK119.out 4).trans rfl; have hfz10_0 := blk_frozen BK119.out 0; have hfz10_1 := blk_frozen BK119.out 1; have hfz10_2 := blk_frozen BK119.out 2; have hfz10_3 := blk_frozen BK119.out 3; have hfz10_4 := blk_frozen BK119.out 4))
  refine bodyPost_ret (results_cell_row rfl _ _ gb119 41 #[.int .i64 a0_0, .int .i64 a0_1, .string a0_2, .int .i64 a0_3, .int .i64 a0_4] (0, 0) _ rfl (by (with_reducible repeat (first | refine blk_drewN ?_ _ | refine blk_drew ?_ | refine blk_alloc ?_ _)); refine blk_put (cs := #[.int .i64 a0_0, .int .i64 a0_1, .string a0_2, .int .i64 a0_3, .int .i64 0]) ?_ 4 _ rfl; (with_reducible repeat (first | refine blk_drewN ?_ _ | refine blk_drew ?_ | refine blk_alloc ?_ _)); refine blk_put (cs := #[.int .i64 a0_0, .int .i64 a0_1, .string a0_2, .int .i64 0, .int .i64 0]) ?_ 3 _ rfl; (with_reducible repeat (first | refine blk_drewN ?_ _ | refine blk_drew ?_ | refine blk_alloc ?_ _)); refine blk_put (cs := #[.int .i64 a0_0, .int .i64 a0_1, .string (⟨#[]⟩ : ByteArray), .int .i64 0, .int .i64 0]) ?_ 2 _ rfl; (with_reducible repeat (first | refine blk_drewN ?_ _ | refine blk_drew ?_ | refine blk_alloc ?_ _)); refine blk_put (cs := #[.int .i64 a0_0, .int .i64 0, .string (⟨#[]⟩ : ByteArray), .int .i64 0, .int .i64 0]) ?_ 1 _ rfl; (with_reducible repeat (first | refine blk_drewN ?_ _ | refine blk_drew ?_ | refine blk_alloc ?_ _)); refine blk_put (cs := #[.int .i64 0, .int .i64 0, .string (⟨#[]⟩ : ByteArray), .int .i64 0, .int .i64 0]) ?_ 0 _ rfl; (with_reducible repeat (first | refine blk_drewN ?_ _ | refine blk_drew ?_ | refine blk_alloc ?_ _)); refine blk_far ?_ NB119_120.out _; (with_reducible repeat (first | refine blk_drewN ?_ _ | refine blk_drew ?_ | refine blk_alloc ?_ _)); refine blk_far ?_ NB119_120.out _; (with_reducible repeat (first | refine blk_drewN ?_ _ | refine blk_drew ?_ | refine blk_alloc ?_ _)); refine blk_far ?_ NB119_120.out _; (with_reducible repeat (first | refine blk_drewN ?_ _ | refine blk_drew ?_ | refine blk_alloc ?_ _)); refine blk_far ?_ NB119_120.out _; (with_reducible repeat (first | refine blk_drewN ?_ _ | refine blk_drew ?_ | refine blk_alloc ?_ _)); refine blk_far ?_ NB119_120.out _; (with_reducible repeat (first | refine blk_drewN ?_ _ | refine blk_drew ?_ | refine blk_alloc ?_ _)); exact BK119.out) Try.underlying41 rfl (by kernel_rfl)) rfl ?_
  exact ⟨by first | rfl | (simp [errW_none, errW_some] <;> rfl) | (simp [*, errW_none, errW_some] <;> rfl), by repeat (first | (with_reducible first | exact HB.out | apply below_alloc | apply pw_below_drewN | apply below_drew1 | refine below_set ?_ GE118.out | refine below_set ?_ GE119.out | refine below_set ?_ GE120.out) | exact HB.out)⟩

end Go.Proofs.Ytoioineibfldcaa.K
end

section
-- Printed by wip/tools/stubprint.py, a driver of mine over the kit's print.py: some callees are proved by hand.
namespace Go.Proofs.Ytoioineibfldcaa.K
open Go.RowKit Go.Proofs.YtoioineibfldcaaW.PrintWords Go.Proofs.YtoioineibfldcaaW.PrintLast Go.Proofs.YtoioineibfldcaaW.PrintMore
attribute [local go_sem] max2_int min2_int max_two min_two max_three min_three max_four min_four   -- for this text's walks alone
set_option linter.unusedVariables false
set_option linter.unusedSimpArgs false

/-! ### laws_toNodeS: function 13 -/
def laws_toNodeS.l0 : Nat → List (S36) → List (S41) → Int → Option ((List (S41)))
  | 0, _, _, _ => none
  | k + 1, x0, x3, x4 => if x4 < (x0.length : Int) then (if 0 ≤ x4 then ((laws_toNode.f ((rd_T36 x0 x4).f0) ((rd_T36 x0 x4).f1) ((rd_T36 x0 x4).f2) ((rd_T36 x0 x4).f3) ((rd_T36 x0 x4).f4)).bind fun bt125 => (if x4 < (x3.length : Int) then (laws_toNodeS.l0 k x0 (x3.set (x4 : Int).toNat (⟨bt125.1, bt125.2.1, bt125.2.2.1, bt125.2.2.2.1, bt125.2.2.2.2⟩ : S41)) (wrap64 (x4 + 1))) else (none))) else (none)) else (some x3)
def laws_toNodeS.f (k : Nat) (l0 : List (S36)) : Option ((List (S41))) := if 0 ≤ (l0.length : Int) then (if ((l0.length : Int) : Int).toNat ≤ 5864062014805 then (laws_toNodeS.l0 k l0 (List.replicate ((l0.length : Int) : Int).toNat z41) 0) else (none)) else (none)
theorem laws_toNodeS.mono_l : ∀ k, (∀ y0 y1 y2, LeO (laws_toNodeS.l0 k y0 y1 y2) (laws_toNodeS.l0 (k + 1) y0 y1 y2))
  | 0 => fun _ _ _ r h => by simp [laws_toNodeS.l0] at h
  | k + 1 => by
    have ih0 := laws_toNodeS.mono_l k
    · intro y0 y1 y2
      unfold laws_toNodeS.l0
      repeat' first
      | (with_reducible exact ih0 _ _ _)
      | (with_reducible exact LeO.refl _)
      | (with_reducible exact LeO.none _)
      | (with_reducible refine LeO.ite ?_ ?_)
      | (with_reducible refine LeO.bind ?_ (fun _ => ?_))
      | exact ih0 _ _ _
      | exact LeO.none _
      | refine LeO.ite ?_ ?_
      | refine LeO.bind ?_ (fun _ => ?_)
theorem laws_toNodeS.mono : ∀ a0 k, LeO (laws_toNodeS.f k a0) (laws_toNodeS.f (k + 1) a0) := by
  intro a0 k
  have ih0 := laws_toNodeS.mono_l k
  unfold laws_toNodeS.f
  repeat' first
      | (with_reducible exact ih0 _ _ _)
      | (with_reducible exact LeO.refl _)
      | (with_reducible exact LeO.none _)
      | (with_reducible refine LeO.ite ?_ ?_)
      | (with_reducible refine LeO.bind ?_ (fun _ => ?_))
      | exact ih0 _ _ _
      | exact LeO.none _
      | refine LeO.ite ?_ ?_
      | refine LeO.bind ?_ (fun _ => ?_)
set_option maxHeartbeats 8000000 in
set_option maxRecDepth 100000 in
theorem laws_toNodeS.calls (k : Nat) (A0 : Option Addr) (c0 : Nat) (l0 : List (S36)) (r : List (S41)) (w : World) (hr0 : Kd.C k36 w A0 l0.length l0) (hc0 : l0.length ≤ c0) (h : laws_toNodeS.f k l0 = some r) :
    Calls Try.prog 13 #[.slice A0 l0.length c0] w fun e w' => ∃ v0_ : Value, e = .returned (v0_) ∧ Kd.R k41 41 w' w.heap.size (fun _ => True) v0_ r ∧ Below w.heap.size w w' := by
  have hu36 := Try.underlying36
  have hu41 := Try.underlying41
  have HR0 := Aside0.mk hr0
  have HC0 := Aside0.mk hc0
  clear hr0 hc0
  have HB := Aside0.mk (Below.refl w.heap.size w)
  have H : (if 0 ≤ (l0.length : Int) then (if ((l0.length : Int) : Int).toNat ≤ 5864062014805 then (laws_toNodeS.l0 k l0 (List.replicate ((l0.length : Int) : Int).toNat z41) 0) else (none)) else (none)) = some r := h
  clear h
  by_cases c2 : 0 ≤ (l0.length : Int)
  · rw [if_pos c2] at H
    have c2b0 := eq_true c2
    have c2b1 : decide (0 ≤ (l0.length : Int)) = true := decide_eq_true c2
    clear c2
    by_cases c3 : ((l0.length : Int) : Int).toNat ≤ 5864062014805
    · rw [if_pos c3] at H
      have c3b0 := eq_true c3
      have c3b1 : decide (((l0.length : Int) : Int).toNat ≤ 5864062014805) = true := decide_eq_true c3
      clear c3
      obtain ⟨y121, hy121⟩ : ∃ y_ : List (S41), y_ = (List.replicate ((l0.length : Int) : Int).toNat z41) := ⟨_, rfl⟩
      replace H : (laws_toNodeS.l0 k l0 y121 0) = some r := by first | (rw [hy121]; with_reducible exact H) | (have H2_ := (Option.bind_some _ _).symm.trans H; rw [hy121]; with_reducible exact H2_) | (have H2_ := (Option.bind_some _ _).symm.trans H; with_reducible exact H2_) | with_reducible exact H | (rw [hy121]; exact H) | exact H
      have Ny121 := Aside0.mk hy121
      clear hy121
      have H' := Aside0.mk H
      clear H
      go_enter Try.func13, Try.ntmps13
      go_wp2_with (first | ((with_reducible refine gate_dst (N := 7) rfl ?_); refine Kd.R_make k41 _ 41 rfl (N := 7) rfl 26 _ _ rfl (l0.length : Int) rfl rfl Try.underlying26 (.agg #[(.int .i64 0), (.int .i64 0), (.string ⟨#[]⟩), (.int .i64 0), (.int .i64 0)]) 48 info41 rfl (by decide) (by omega) z41 (ok := fun _ => True) (okp := fun _ => True) (k41_mkM _ _ _ z41 ) (fun _ hk => hk) trivial (of_decide_eq_true (by first | (with_reducible assumption) | assumption)) (Nat.le_trans (Nat.mul_le_mul_right _ (of_decide_eq_true (by first | (with_reducible assumption) | assumption) : (l0.length : Int).toNat ≤ 5864062014805)) (by omega)) (Below.refl _ _) (Nat.le_refl _) ?_; intro v122 w4 ho5 hb hg_ hnew_; clear hg_ hnew_; (first | rw [← Ny121.out] at ho5 | (simp only [Int.reduceToNat] at ho5; rw [← Ny121.out] at ho5)); have n0_ := Aside0.mk (Kd.R_lower ho5 (below_size (by repeat (first | (with_reducible first | exact HB.out | apply below_alloc | apply pw_below_drewN | apply below_drew1) | exact HB.out)))); have n1_ := Aside0.mk (below_step (by repeat (first | (with_reducible first | exact HB.out | apply below_alloc | apply pw_below_drewN | apply below_drew1) | exact HB.out)) hb); clear HB; have HO123 := n0_; have HB := n1_; clear n0_ n1_; clear hb ho5))
      go_loopg [4] k (fun kq v4 w' => ∃ (x3_1 : List (S41)) (x4_1 : Int), v4 = .int .i64 x4_1 ∧ Aside0 (laws_toNodeS.l0 kq l0 x3_1 x4_1 = some r) ∧ Aside0 (kq ≤ k) ∧ Aside0 (Kd.R k41 41 w' w.heap.size (fun _ => True) v122 x3_1) ∧ Aside0 (Below w.heap.size w w'))
      case atStart => exact ⟨(y121), (0), (by first | rfl | (simp; done) | (simp [*]; done)), H', ⟨Nat.le_refl _⟩, ⟨by (with_reducible repeat (first | apply Kd.R_alloc | apply Kd.R_drewN | apply Kd.R_drew)); exact HO123.out⟩, ⟨by repeat (first | (with_reducible first | exact HB.out | apply below_alloc | apply pw_below_drewN | apply below_drew1) | exact HB.out)⟩⟩
      case round =>
        clear H'
        try clear c1
        try clear c2
        try clear c2b0
        try clear c2b1
        try clear p2
        try clear c3
        try clear c3b0
        try clear c3b1
        obtain ⟨x3_1, x4_1, rfl, HA, HK1, HO_3, HB⟩ := hrel
        cases gk with
        | zero => exact absurd HA.out (by simp [laws_toNodeS.l0])
        | succ k1 =>
          have H := HA.out
          clear HA
          simp only [laws_toNodeS.l0] at H
          by_cases c6 : x4_1 < (l0.length : Int)
          · rw [if_pos c6] at H
            have c6b0 : decide (x4_1 < (l0.length : Int)) = true := decide_eq_true c6
            clear c6
            by_cases c7 : 0 ≤ x4_1
            · rw [if_pos c7] at H
              have c7b0 : decide (0 ≤ x4_1) = true := decide_eq_true c7
              clear c7
              replace H := Option.bind_eq_some_iff.mp H
              obtain ⟨⟨t125, t126, t127, t128, t129⟩, A80, H⟩ := H
              replace H : (if x4_1 < (x3_1.length : Int) then (laws_toNodeS.l0 k1 l0 (x3_1.set (x4_1 : Int).toNat (⟨t125, t126, t127, t128, t129⟩ : S41)) (wrap64 (x4_1 + 1))) else (none)) = some r := H
              have A8 := Aside0.mk A80
              clear A80
              by_cases c9 : x4_1 < (x3_1.length : Int)
              · rw [if_pos c9] at H
                have c9b0 : decide (x4_1 < (x3_1.length : Int)) = true := decide_eq_true c9
                clear c9
                obtain ⟨y130, hy130⟩ : ∃ y_ : List (S41), y_ = (x3_1.set (x4_1 : Int).toNat (⟨t125, t126, t127, t128, t129⟩ : S41)) := ⟨_, rfl⟩
                replace H : (laws_toNodeS.l0 k1 l0 y130 (wrap64 (x4_1 + 1))) = some r := by first | (rw [hy130]; with_reducible exact H) | (have H2_ := (Option.bind_some _ _).symm.trans H; rw [hy130]; with_reducible exact H2_) | (have H2_ := (Option.bind_some _ _).symm.trans H; with_reducible exact H2_) | with_reducible exact H | (rw [hy130]; exact H) | exact H
                have Ny130 := Aside0.mk hy130
                clear hy130
                have H' := Aside0.mk H
                clear H
                have p124 : 0 ≤ (x4_1 : Int) := of_decide_eq_true (by first | (with_reducible assumption) | assumption)
                have q124 : x4_1 < (l0.length : Int) := of_decide_eq_true (by first | (with_reducible assumption) | assumption)
                obtain ⟨ad124, e124, hx124_0, hx124_1, hx124_2, hx124_3, hx124_4⟩ := at_T36 HR0.out x4_1 p124 q124
                cases e124
                replace hx124_0 := (HB.out.cell (World.block_lt_of_cell? w _ hx124_0)).trans hx124_0
                replace hx124_1 := (HB.out.cell (World.block_lt_of_cell? w _ hx124_1)).trans hx124_1
                replace hx124_2 := (HB.out.cell (World.block_lt_of_cell? w _ hx124_2)).trans hx124_2
                replace hx124_3 := (HB.out.cell (World.block_lt_of_cell? w _ hx124_3)).trans hx124_3
                replace hx124_4 := (HB.out.cell (World.block_lt_of_cell? w _ hx124_4)).trans hx124_4
                replace p124 := eq_true p124
                replace q124 := eq_true q124
                go_wp2_with (first | ((with_reducible refine gate_callee (f := 25) rfl ?_); refine goesL_ (some 20) rfl rfl Try.func25 (by kernel_rfl) rfl #[.agg #[.int .i64 ((rd_T36 l0 x4_1).f0), .int .i64 ((rd_T36 l0 x4_1).f1), .string ((rd_T36 l0 x4_1).f2), .int .i64 ((rd_T36 l0 x4_1).f3), .int .i64 ((rd_T36 l0 x4_1).f4)]] rfl (by (try simp only [List.map_toArray, List.map_cons, List.map_nil]); first | done | rfl | (simp only [List.length_drop, List.length_take]; rfl)) ?_; (with_reducible refine (laws_toNode.calls ((rd_T36 l0 x4_1).f0) ((rd_T36 l0 x4_1).f1) ((rd_T36 l0 x4_1).f2) ((rd_T36 l0 x4_1).f3) ((rd_T36 l0 x4_1).f4) t125 t126 t127 t128 t129 _ A8.out).mono ?_); rintro e w11 ⟨rfl, hb⟩; refine ⟨_, rfl, ?_⟩; have n0_ := Aside0.mk (Kd.R_below (by (with_reducible repeat (first | apply Kd.R_alloc | apply Kd.R_drewN | apply Kd.R_drew)); exact HO_3.out) hb); have n1_ := Aside0.mk (below_step (by repeat (first | (with_reducible first | exact HB.out | apply below_alloc | apply pw_below_drewN | apply below_drew1) | exact HB.out)) hb); clear HO_3; clear HB; have HO_3 := n0_; have HB := n1_; clear n0_ n1_; (try clear hb); (try clear hb2); (try clear hk); (try clear hi); have p10 : 0 ≤ (x4_1 : Int) := of_decide_eq_true (by first | (with_reducible assumption) | assumption); have q10 : (x4_1 : Int) < ((x3_1.length : Int) : Int) := of_decide_eq_true (by first | (with_reducible assumption) | assumption); obtain ⟨go10, co10, eo10, gb10, gl10, cl10, HG10⟩ := Kd.R_form HO_3.out (by omega); (first | cases eo10 | (injection eo10 with ea_ en_ ec_; (first | subst ea_ | (injection ea_ with ea_; subst ea_)); subst ec_; clear en_)); have GB10 := Aside0.mk gb10; have GG10 := Aside0.mk HG10; clear gb10 gl10 HG10; obtain ⟨ce10, hcl10, hM10, hcc10, hfr10⟩ := Kd.R_elem HO_3.out z41 (x4_1 : Int) p10 q10; obtain rfl := k41_openM hM10; have hx10_0 : w11.cell? ⟨go10, (x4_1 : Int).toNat * 5, none⟩ = some (.int .i64 ((rd_T41 x3_1 x4_1).f0)) := hcc10 0 _ rfl; have hx10_1 : w11.cell? ⟨go10, (x4_1 : Int).toNat * 5 + 1, none⟩ = some (.int .i64 ((rd_T41 x3_1 x4_1).f1)) := hcc10 1 _ rfl; have hx10_2 : w11.cell? ⟨go10, (x4_1 : Int).toNat * 5 + 2, none⟩ = some (.string ((rd_T41 x3_1 x4_1).f2)) := hcc10 2 _ rfl; have hx10_3 : w11.cell? ⟨go10, (x4_1 : Int).toNat * 5 + 3, none⟩ = some (.int .i64 ((rd_T41 x3_1 x4_1).f3)) := hcc10 3 _ rfl; have hx10_4 : w11.cell? ⟨go10, (x4_1 : Int).toNat * 5 + 4, none⟩ = some (.int .i64 ((rd_T41 x3_1 x4_1).f4)) := hcc10 4 _ rfl; have hf10_0 : w11.frozen? ⟨go10, (x4_1 : Int).toNat * 5, none⟩ = false := hfr10 0; have hf10_1 : w11.frozen? ⟨go10, (x4_1 : Int).toNat * 5 + 1, none⟩ = false := hfr10 1; have hf10_2 : w11.frozen? ⟨go10, (x4_1 : Int).toNat * 5 + 2, none⟩ = false := hfr10 2; have hf10_3 : w11.frozen? ⟨go10, (x4_1 : Int).toNat * 5 + 3, none⟩ = false := hfr10 3; have hf10_4 : w11.frozen? ⟨go10, (x4_1 : Int).toNat * 5 + 4, none⟩ = false := hfr10 4; clear hcl10 hcc10 hfr10 hM10; replace p10 := eq_true p10; replace q10 := eq_true q10; have HX12 := Aside0.mk (show Kd.R k41 41 w11 w.heap.size (fun _ => True) (.slice (some ⟨go10, 0, none⟩) x3_1.length co10) x3_1 from (by (with_reducible repeat (first | apply Kd.R_alloc | apply Kd.R_drewN | apply Kd.R_drew)); exact HO_3.out)); obtain ⟨ce12, hcl12, hM12, hcc12, hfr12⟩ := Kd.R_elem HX12.out z41 (x4_1 : Int) (of_decide_eq_true (by first | (with_reducible assumption) | assumption)) (by have h_ : (x4_1 : Int) < ((x3_1.length : Int) : Int) := of_decide_eq_true (by first | (with_reducible assumption) | assumption); first | exact h_ | (have e_ := (Kd.R_reads' HO_3.out).1; omega) | simpa using h_); obtain rfl := k41_openM hM12; have HP12 := Kd.R_seg HX12.out (x4_1 : Int) (of_decide_eq_true (by first | (with_reducible assumption) | assumption)) (by have h_ : (x4_1 : Int) < ((x3_1.length : Int) : Int) := of_decide_eq_true (by first | (with_reducible assumption) | assumption); first | exact h_ | (have e_ := (Kd.R_reads' HO_3.out).1; omega) | simpa using h_) (seg := [.int .i64 t125, .int .i64 t126, .string t127, .int .i64 t128, .int .i64 t129]) (j := 0) hcl12 hcc12 (show 5 ≤ 5 from by decide) (x' := (⟨t125, t126, t127, t128, t129⟩ : S41)) (k41_mkM _ _ _ (⟨t125, t126, t127, t128, t129⟩ : S41) ) (fun _ hk => hk); have hx12_0 := hcc12 0 _ rfl; (try simp only [show (k41).sz = 5 from rfl, Nat.mul_one, Nat.add_zero] at hx12_0); have hf12_0 := hfr12 0; (try simp only [show (k41).sz = 5 from rfl, Nat.mul_one, Nat.add_zero] at hf12_0); have hx12_1 := hcc12 1 _ rfl; (try simp only [show (k41).sz = 5 from rfl, Nat.mul_one, Nat.add_zero] at hx12_1); have hf12_1 := hfr12 1; (try simp only [show (k41).sz = 5 from rfl, Nat.mul_one, Nat.add_zero] at hf12_1); have hx12_2 := hcc12 2 _ rfl; (try simp only [show (k41).sz = 5 from rfl, Nat.mul_one, Nat.add_zero] at hx12_2); have hf12_2 := hfr12 2; (try simp only [show (k41).sz = 5 from rfl, Nat.mul_one, Nat.add_zero] at hf12_2); have hx12_3 := hcc12 3 _ rfl; (try simp only [show (k41).sz = 5 from rfl, Nat.mul_one, Nat.add_zero] at hx12_3); have hf12_3 := hfr12 3; (try simp only [show (k41).sz = 5 from rfl, Nat.mul_one, Nat.add_zero] at hf12_3); have hx12_4 := hcc12 4 _ rfl; (try simp only [show (k41).sz = 5 from rfl, Nat.mul_one, Nat.add_zero] at hx12_4); have hf12_4 := hfr12 4; (try simp only [show (k41).sz = 5 from rfl, Nat.mul_one, Nat.add_zero] at hf12_4); clear hcl12 hcc12 hfr12 hM12) | ((with_reducible refine gate_store (t := 41) (p := 21) rfl ?_); refine store_event (t := 41) (p := 21) (v := ?vo_w13) (w1 := (((((w11.setCell ⟨go10, (x4_1 : Int).toNat * 5, none⟩ (.int .i64 t125)).setCell ⟨go10, (x4_1 : Int).toNat * 5 + 1, none⟩ (.int .i64 t126)).setCell ⟨go10, (x4_1 : Int).toNat * 5 + 2, none⟩ (.string t127)).setCell ⟨go10, (x4_1 : Int).toNat * 5 + 3, none⟩ (.int .i64 t128)).setCell ⟨go10, (x4_1 : Int).toNat * 5 + 4, none⟩ (.int .i64 t129))) ?hg ?ho ?hn ?hr ?_; (case ho => rfl); (case hg => rfl); (case hn => rfl); (case hr => first | (go_simp; done) | (go_simp; rfl)); intro w13 hw; have hg : w11.grownBy w13 (some go10) := (by rw [hw]; exact HP12.2); have hp_ : Kd.R k41 41 w13 w.heap.size (fun _ => True) (.slice (some ⟨go10, 0, none⟩) x3_1.length co10) y130 := (by rw [hw, Ny130.out]; exact HP12.1); clear HP12; have n0_ := Aside0.mk (hp_); have n1_ := Aside0.mk ((by rw [hw]; exact below_set (below_set (below_set (below_set (below_set (HB.out) GB10.out) GB10.out) GB10.out) GB10.out) GB10.out : Below w.heap.size w w13)); clear HO_3; clear HB; have HO_3 := n0_; have HB := n1_; clear n0_ n1_; clear hg hw hp_))
                go_roundg k1
                case measure => have := HK1.out; omega
                case rel => exact ⟨(y130), (wrap64 (x4_1 + 1)), (by first | rfl | (simp; done) | (simp [*]; done)), H', ⟨by have := HK1.out; omega⟩, ⟨by (with_reducible repeat (first | apply Kd.R_alloc | apply Kd.R_drewN | apply Kd.R_drew)); exact HO_3.out⟩, ⟨by repeat (first | (with_reducible first | exact HB.out | apply below_alloc | apply pw_below_drewN | apply below_drew1) | exact HB.out)⟩⟩
              · rw [if_neg c9] at H
                exact absurd H (by simp)
            · rw [if_neg c7] at H
              exact absurd H (by simp)
          · rw [if_neg c6] at H
            have c6b0 : decide (x4_1 < (l0.length : Int)) = false := decide_eq_false c6
            clear c6
            obtain rfl := Option.some.inj H
            go_wp2
            go_ret
            exact ⟨_, by first | rfl | (simp [errW_none, errW_some] <;> rfl) | (simp [*, errW_none, errW_some] <;> rfl), by (with_reducible repeat (first | apply Kd.R_alloc | apply Kd.R_drewN | apply Kd.R_drew)); exact HO_3.out, by repeat (first | (with_reducible first | exact HB.out | apply below_alloc | apply pw_below_drewN | apply below_drew1) | exact HB.out)⟩
    · rw [if_neg c3] at H
      exact absurd H (by simp)
  · rw [if_neg c2] at H
    exact absurd H (by simp)

end Go.Proofs.Ytoioineibfldcaa.K
end

section
-- Printed by wip/tools/stubprint.py, a driver of mine over the kit's print.py: some callees are proved by hand.
namespace Go.Proofs.Ytoioineibfldcaa.K
open Go.RowKit Go.Proofs.YtoioineibfldcaaW.PrintWords Go.Proofs.YtoioineibfldcaaW.PrintLast Go.Proofs.YtoioineibfldcaaW.PrintMore
attribute [local go_sem] max2_int min2_int max_two min_two max_three min_three max_four min_four   -- for this text's walks alone
set_option linter.unusedVariables false
set_option linter.unusedSimpArgs false

/-! ### laws_eqNode: function 38 -/
def laws_eqNode.f (a0_0 : Int) (a0_1 : Int) (a0_2 : ByteArray) (a0_3 : Int) (a0_4 : Int) (a1_0 : Int) (a1_1 : Int) (a1_2 : ByteArray) (a1_3 : Int) (a1_4 : Int) : Option (Bool) := if a0_0 = a1_0 then (if a0_1 = a1_1 then (if a0_2.toList = a1_2.toList then (if a0_3 = a1_3 then (if a0_4 = a1_4 then (some true) else (some false)) else (some false)) else (some false)) else (some false)) else (some false)
set_option maxHeartbeats 8000000 in
set_option maxRecDepth 100000 in
theorem laws_eqNode.calls (a0_0 : Int) (a0_1 : Int) (a0_2 : ByteArray) (a0_3 : Int) (a0_4 : Int) (a1_0 : Int) (a1_1 : Int) (a1_2 : ByteArray) (a1_3 : Int) (a1_4 : Int) (r : Bool) (w : World) (h : laws_eqNode.f a0_0 a0_1 a0_2 a0_3 a0_4 a1_0 a1_1 a1_2 a1_3 a1_4 = some r) :
    Calls Try.prog 38 #[.agg #[.int .i64 a0_0, .int .i64 a0_1, .string a0_2, .int .i64 a0_3, .int .i64 a0_4], .agg #[.int .i64 a1_0, .int .i64 a1_1, .string a1_2, .int .i64 a1_3, .int .i64 a1_4]] w fun e w' => e = .returned (.bool r) ∧ Below w.heap.size w w' := by
  have hu41 := Try.underlying41
  have HB := Aside0.mk (Below.refl w.heap.size w)
  have H : (if a0_0 = a1_0 then (if a0_1 = a1_1 then (if a0_2.toList = a1_2.toList then (if a0_3 = a1_3 then (if a0_4 = a1_4 then (some true) else (some false)) else (some false)) else (some false)) else (some false)) else (some false)) = some r := h
  clear h
  by_cases c3 : a0_0 = a1_0
  · rw [if_pos c3] at H
    have c3b0 : (a0_0 == a1_0) = true := beq_iff_eq.mpr c3
    have c3b1 : (a0_0 != a1_0) = false := bne_eq_false_iff_eq.mpr c3
    clear c3
    by_cases c4 : a0_1 = a1_1
    · rw [if_pos c4] at H
      have c4b0 : (a0_1 == a1_1) = true := beq_iff_eq.mpr c4
      have c4b1 : (a0_1 != a1_1) = false := bne_eq_false_iff_eq.mpr c4
      clear c4
      by_cases c5 : a0_2.toList = a1_2.toList
      · rw [if_pos c5] at H
        have c5b0 : (a0_2.toList == a1_2.toList) = true := beq_iff_eq.mpr c5
        have c5b1 : (a0_2.toList != a1_2.toList) = false := bne_eq_false_iff_eq.mpr c5
        clear c5
        by_cases c6 : a0_3 = a1_3
        · rw [if_pos c6] at H
          have c6b0 : (a0_3 == a1_3) = true := beq_iff_eq.mpr c6
          have c6b1 : (a0_3 != a1_3) = false := bne_eq_false_iff_eq.mpr c6
          clear c6
          by_cases c7 : a0_4 = a1_4
          · rw [if_pos c7] at H
            have c7b0 : (a0_4 == a1_4) = true := beq_iff_eq.mpr c7
            have c7b1 : (a0_4 != a1_4) = false := bne_eq_false_iff_eq.mpr c7
            clear c7
            obtain rfl := Option.some.inj H
            go_enter Try.func38, Try.ntmps38
            go_wp2_with (first | ((with_reducible refine gate_dst (N := 2) rfl ?_); refine box_event ?hg (N := 2) ?hd (cs := #[.int .i64 a0_0, .int .i64 a0_1, .string a0_2, .int .i64 a0_3, .int .i64 a0_4]) (t := 41) ?hr ?_; (case hd => rfl); (case hg => rfl); (case hr => first | (go_simp; done) | (go_simp; rfl)); intro gb131 hg w8 hbox hb; have n0_ := Aside0.mk (below_step (by repeat (first | (with_reducible first | exact HB.out | apply below_alloc | apply pw_below_drewN | apply below_drew1) | exact HB.out)) hb); have n1_ := Aside0.mk (hbox); have n2_ := Aside0.mk ((by rw [hg]; exact (below_size (by repeat (first | (with_reducible first | exact HB.out | apply below_alloc | apply pw_below_drewN | apply below_drew1) | exact HB.out))) : w.heap.size ≤ gb131)); have n3_ := Aside0.mk ((by rw [hg]; exact (below_size (by repeat (first | (with_reducible first | exact HB.out | apply below_alloc | apply pw_below_drewN | apply below_drew1) | exact HB.out))) : w.heap.size ≤ gb131)); clear HB; have HB := n0_; have BK131 := n1_; have GW131 := n2_; have GE131 := n3_; clear n0_ n1_ n2_ n3_; clear hb hbox hg) | ((with_reducible refine gate_dst (N := 3) rfl ?_); refine box_event ?hg (N := 3) ?hd (cs := #[.int .i64 a1_0, .int .i64 a1_1, .string a1_2, .int .i64 a1_3, .int .i64 a1_4]) (t := 41) ?hr ?_; (case hd => rfl); (case hg => rfl); (case hr => first | (go_simp; done) | (go_simp; rfl)); intro gb132 hg w9 hbox hb; have n0_ := Aside0.mk (blk_below (g := gb131) (o := .cells #[.int .i64 a0_0, .int .i64 a0_1, .string a0_2, .int .i64 a0_3, .int .i64 a0_4] 41 (0, 0)) (by (with_reducible repeat (first | refine blk_drewN ?_ _ | refine blk_drew ?_ | refine blk_alloc ?_ _)); exact BK131.out) hb); have n1_ := Aside0.mk (below_step (by repeat (first | (with_reducible first | exact HB.out | apply below_alloc | apply pw_below_drewN | apply below_drew1 | refine below_set ?_ GE131.out) | exact HB.out)) hb); have n2_ := Aside0.mk (hbox); have n3_ := Aside0.mk ((by rw [hg]; exact (below_size (by repeat (first | (with_reducible first | exact HB.out | apply below_alloc | apply pw_below_drewN | apply below_drew1 | refine below_set ?_ GE131.out) | exact HB.out))) : w.heap.size ≤ gb132)); have n4_ := Aside0.mk ((by rw [hg]; exact (below_size (by repeat (first | (with_reducible first | exact HB.out | apply below_alloc | apply pw_below_drewN | apply below_drew1 | refine below_set ?_ GE131.out) | exact HB.out))) : w.heap.size ≤ gb132)); have n5_ := Aside0.mk ((by rw [hg]; exact Nat.ne_of_lt (blk_lt (g := gb131) (o := .cells #[.int .i64 a0_0, .int .i64 a0_1, .string a0_2, .int .i64 a0_3, .int .i64 a0_4] 41 (0, 0)) (by (with_reducible repeat (first | refine blk_drewN ?_ _ | refine blk_drew ?_ | refine blk_alloc ?_ _)); exact BK131.out)) : gb131 ≠ gb132)); have n6_ := Aside0.mk ((by rw [hg]; exact Nat.ne_of_gt (blk_lt (g := gb131) (o := .cells #[.int .i64 a0_0, .int .i64 a0_1, .string a0_2, .int .i64 a0_3, .int .i64 a0_4] 41 (0, 0)) (by (with_reducible repeat (first | refine blk_drewN ?_ _ | refine blk_drew ?_ | refine blk_alloc ?_ _)); exact BK131.out)) : gb132 ≠ gb131)); clear BK131; clear HB; have BK131 := n0_; have HB := n1_; have BK132 := n2_; have GW132 := n3_; have GE132 := n4_; have NB131_132 := n5_; have NB132_131 := n6_; clear n0_ n1_ n2_ n3_ n4_ n5_ n6_; clear hb hbox hg; have hnb10 := NB131_132.out; have hnc10 := NB132_131.out; have hcz11_0 : w9.cell? ⟨gb131, 0, none⟩ = some (.int .i64 a0_0) := (blk_cell BK131.out 0).trans rfl; have hcz11_1 : w9.cell? ⟨gb131, 1, none⟩ = some (.int .i64 a0_1) := (blk_cell BK131.out 1).trans rfl; have hcz11_2 : w9.cell? ⟨gb131, 2, none⟩ = some (.string a0_2) := (blk_cell BK131.out 2).trans rfl; have hcz11_3 : w9.cell? ⟨gb131, 3, none⟩ = some (.int .i64 a0_3) := (blk_cell BK131.out 3).trans rfl; have hcz11_4 : w9.cell? ⟨gb131, 4, none⟩ = some (.int .i64 a0_4) := (blk_cell BK131.out 4).trans rfl; have hfz11_0 := blk_frozen BK131.out 0; have hfz11_1 := blk_frozen BK131.out 1; have hfz11_2 := blk_frozen BK131.out 2; have hfz11_3 := blk_frozen BK131.out 3; have hfz11_4 := blk_frozen BK131.out 4; have hcz12_0 : w9.cell? ⟨gb132, 0, none⟩ = some (.int .i64 a1_0) := (blk_cell BK132.out 0).trans rfl; have hcz12_1 : w9.cell? ⟨gb132, 1, none⟩ = some (.int .i64 a1_1) := (blk_cell BK132.out 1).trans rfl; have hcz12_2 : w9.cell? ⟨gb132, 2, none⟩ = some (.string a1_2) := (blk_cell BK132.out 2).trans rfl; have hcz12_3 : w9.cell? ⟨gb132, 3, none⟩ = some (.int .i64 a1_3) := (blk_cell BK132.out 3).trans rfl; have hcz12_4 : w9.cell? ⟨gb132, 4, none⟩ = some (.int .i64 a1_4) := (blk_cell BK132.out 4).trans rfl; have hfz12_0 := blk_frozen BK132.out 0; have hfz12_1 := blk_frozen BK132.out 1; have hfz12_2 := blk_frozen BK132.out 2; have hfz12_3 := blk_frozen BK132.out 3; have hfz12_4 := blk_frozen BK132.out 4))
            go_ret
            exact ⟨by first | rfl | (simp [errW_none, errW_some] <;> rfl) | (simp [*, errW_none, errW_some] <;> rfl), by repeat (first | (with_reducible first | exact HB.out | apply below_alloc | apply pw_below_drewN | apply below_drew1 | refine below_set ?_ GE131.out | refine below_set ?_ GE132.out) | exact HB.out)⟩
          · rw [if_neg c7] at H
            have c7b0 : (a0_4 == a1_4) = false := beq_eq_false_iff_ne.mpr c7
            have c7b1 : (a0_4 != a1_4) = true := bne_iff_ne.mpr c7
            obtain rfl := Option.some.inj H
            go_enter Try.func38, Try.ntmps38
            go_wp2_with (first | ((with_reducible refine gate_dst (N := 2) rfl ?_); refine box_event ?hg (N := 2) ?hd (cs := #[.int .i64 a0_0, .int .i64 a0_1, .string a0_2, .int .i64 a0_3, .int .i64 a0_4]) (t := 41) ?hr ?_; (case hd => rfl); (case hg => rfl); (case hr => first | (go_simp; done) | (go_simp; rfl)); intro gb131 hg w13 hbox hb; have n0_ := Aside0.mk (below_step (by repeat (first | (with_reducible first | exact HB.out | apply below_alloc | apply pw_below_drewN | apply below_drew1) | exact HB.out)) hb); have n1_ := Aside0.mk (hbox); have n2_ := Aside0.mk ((by rw [hg]; exact (below_size (by repeat (first | (with_reducible first | exact HB.out | apply below_alloc | apply pw_below_drewN | apply below_drew1) | exact HB.out))) : w.heap.size ≤ gb131)); have n3_ := Aside0.mk ((by rw [hg]; exact (below_size (by repeat (first | (with_reducible first | exact HB.out | apply below_alloc | apply pw_below_drewN | apply below_drew1) | exact HB.out))) : w.heap.size ≤ gb131)); clear HB; have HB := n0_; have BK131 := n1_; have GW131 := n2_; have GE131 := n3_; clear n0_ n1_ n2_ n3_; clear hb hbox hg) | ((with_reducible refine gate_dst (N := 3) rfl ?_); refine box_event ?hg (N := 3) ?hd (cs := #[.int .i64 a1_0, .int .i64 a1_1, .string a1_2, .int .i64 a1_3, .int .i64 a1_4]) (t := 41) ?hr ?_; (case hd => rfl); (case hg => rfl); (case hr => first | (go_simp; done) | (go_simp; rfl)); intro gb132 hg w14 hbox hb; have n0_ := Aside0.mk (blk_below (g := gb131) (o := .cells #[.int .i64 a0_0, .int .i64 a0_1, .string a0_2, .int .i64 a0_3, .int .i64 a0_4] 41 (0, 0)) (by (with_reducible repeat (first | refine blk_drewN ?_ _ | refine blk_drew ?_ | refine blk_alloc ?_ _)); exact BK131.out) hb); have n1_ := Aside0.mk (below_step (by repeat (first | (with_reducible first | exact HB.out | apply below_alloc | apply pw_below_drewN | apply below_drew1 | refine below_set ?_ GE131.out) | exact HB.out)) hb); have n2_ := Aside0.mk (hbox); have n3_ := Aside0.mk ((by rw [hg]; exact (below_size (by repeat (first | (with_reducible first | exact HB.out | apply below_alloc | apply pw_below_drewN | apply below_drew1 | refine below_set ?_ GE131.out) | exact HB.out))) : w.heap.size ≤ gb132)); have n4_ := Aside0.mk ((by rw [hg]; exact (below_size (by repeat (first | (with_reducible first | exact HB.out | apply below_alloc | apply pw_below_drewN | apply below_drew1 | refine below_set ?_ GE131.out) | exact HB.out))) : w.heap.size ≤ gb132)); have n5_ := Aside0.mk ((by rw [hg]; exact Nat.ne_of_lt (blk_lt (g := gb131) (o := .cells #[.int .i64 a0_0, .int .i64 a0_1, .string a0_2, .int .i64 a0_3, .int .i64 a0_4] 41 (0, 0)) (by (with_reducible repeat (first | refine blk_drewN ?_ _ | refine blk_drew ?_ | refine blk_alloc ?_ _)); exact BK131.out)) : gb131 ≠ gb132)); have n6_ := Aside0.mk ((by rw [hg]; exact Nat.ne_of_gt (blk_lt (g := gb131) (o := .cells #[.int .i64 a0_0, .int .i64 a0_1, .string a0_2, .int .i64 a0_3, .int .i64 a0_4] 41 (0, 0)) (by (with_reducible repeat (first | refine blk_drewN ?_ _ | refine blk_drew ?_ | refine blk_alloc ?_ _)); exact BK131.out)) : gb132 ≠ gb131)); clear BK131; clear HB; have BK131 := n0_; have HB := n1_; have BK132 := n2_; have GW132 := n3_; have GE132 := n4_; have NB131_132 := n5_; have NB132_131 := n6_; clear n0_ n1_ n2_ n3_ n4_ n5_ n6_; clear hb hbox hg; have hnb15 := NB131_132.out; have hnc15 := NB132_131.out; have hcz16_0 : w14.cell? ⟨gb131, 0, none⟩ = some (.int .i64 a0_0) := (blk_cell BK131.out 0).trans rfl; have hcz16_1 : w14.cell? ⟨gb131, 1, none⟩ = some (.int .i64 a0_1) := (blk_cell BK131.out 1).trans rfl; have hcz16_2 : w14.cell? ⟨gb131, 2, none⟩ = some (.string a0_2) := (blk_cell BK131.out 2).trans rfl; have hcz16_3 : w14.cell? ⟨gb131, 3, none⟩ = some (.int .i64 a0_3) := (blk_cell BK131.out 3).trans rfl; have hcz16_4 : w14.cell? ⟨gb131, 4, none⟩ = some (.int .i64 a0_4) := (blk_cell BK131.out 4).trans rfl; have hfz16_0 := blk_frozen BK131.out 0; have hfz16_1 := blk_frozen BK131.out 1; have hfz16_2 := blk_frozen BK131.out 2; have hfz16_3 := blk_frozen BK131.out 3; have hfz16_4 := blk_frozen BK131.out 4; have hcz17_0 : w14.cell? ⟨gb132, 0, none⟩ = some (.int .i64 a1_0) := (blk_cell BK132.out 0).trans rfl; have hcz17_1 : w14.cell? ⟨gb132, 1, none⟩ = some (.int .i64 a1_1) := (blk_cell BK132.out 1).trans rfl; have hcz17_2 : w14.cell? ⟨gb132, 2, none⟩ = some (.string a1_2) := (blk_cell BK132.out 2).trans rfl; have hcz17_3 : w14.cell? ⟨gb132, 3, none⟩ = some (.int .i64 a1_3) := (blk_cell BK132.out 3).trans rfl; have hcz17_4 : w14.cell? ⟨gb132, 4, none⟩ = some (.int .i64 a1_4) := (blk_cell BK132.out 4).trans rfl; have hfz17_0 := blk_frozen BK132.out 0; have hfz17_1 := blk_frozen BK132.out 1; have hfz17_2 := blk_frozen BK132.out 2; have hfz17_3 := blk_frozen BK132.out 3; have hfz17_4 := blk_frozen BK132.out 4))
            go_ret
            exact ⟨by first | rfl | (simp [errW_none, errW_some] <;> rfl) | (simp [*, errW_none, errW_some] <;> rfl), by repeat (first | (with_reducible first | exact HB.out | apply below_alloc | apply pw_below_drewN | apply below_drew1 | refine below_set ?_ GE131.out | refine below_set ?_ GE132.out) | exact HB.out)⟩
        · rw [if_neg c6] at H
          have c6b0 : (a0_3 == a1_3) = false := beq_eq_false_iff_ne.mpr c6
          have c6b1 : (a0_3 != a1_3) = true := bne_iff_ne.mpr c6
          obtain rfl := Option.some.inj H
          go_enter Try.func38, Try.ntmps38
          go_wp2_with (first | ((with_reducible refine gate_dst (N := 2) rfl ?_); refine box_event ?hg (N := 2) ?hd (cs := #[.int .i64 a0_0, .int .i64 a0_1, .string a0_2, .int .i64 a0_3, .int .i64 a0_4]) (t := 41) ?hr ?_; (case hd => rfl); (case hg => rfl); (case hr => first | (go_simp; done) | (go_simp; rfl)); intro gb131 hg w18 hbox hb; have n0_ := Aside0.mk (below_step (by repeat (first | (with_reducible first | exact HB.out | apply below_alloc | apply pw_below_drewN | apply below_drew1) | exact HB.out)) hb); have n1_ := Aside0.mk (hbox); have n2_ := Aside0.mk ((by rw [hg]; exact (below_size (by repeat (first | (with_reducible first | exact HB.out | apply below_alloc | apply pw_below_drewN | apply below_drew1) | exact HB.out))) : w.heap.size ≤ gb131)); have n3_ := Aside0.mk ((by rw [hg]; exact (below_size (by repeat (first | (with_reducible first | exact HB.out | apply below_alloc | apply pw_below_drewN | apply below_drew1) | exact HB.out))) : w.heap.size ≤ gb131)); clear HB; have HB := n0_; have BK131 := n1_; have GW131 := n2_; have GE131 := n3_; clear n0_ n1_ n2_ n3_; clear hb hbox hg) | ((with_reducible refine gate_dst (N := 3) rfl ?_); refine box_event ?hg (N := 3) ?hd (cs := #[.int .i64 a1_0, .int .i64 a1_1, .string a1_2, .int .i64 a1_3, .int .i64 a1_4]) (t := 41) ?hr ?_; (case hd => rfl); (case hg => rfl); (case hr => first | (go_simp; done) | (go_simp; rfl)); intro gb132 hg w19 hbox hb; have n0_ := Aside0.mk (blk_below (g := gb131) (o := .cells #[.int .i64 a0_0, .int .i64 a0_1, .string a0_2, .int .i64 a0_3, .int .i64 a0_4] 41 (0, 0)) (by (with_reducible repeat (first | refine blk_drewN ?_ _ | refine blk_drew ?_ | refine blk_alloc ?_ _)); exact BK131.out) hb); have n1_ := Aside0.mk (below_step (by repeat (first | (with_reducible first | exact HB.out | apply below_alloc | apply pw_below_drewN | apply below_drew1 | refine below_set ?_ GE131.out) | exact HB.out)) hb); have n2_ := Aside0.mk (hbox); have n3_ := Aside0.mk ((by rw [hg]; exact (below_size (by repeat (first | (with_reducible first | exact HB.out | apply below_alloc | apply pw_below_drewN | apply below_drew1 | refine below_set ?_ GE131.out) | exact HB.out))) : w.heap.size ≤ gb132)); have n4_ := Aside0.mk ((by rw [hg]; exact (below_size (by repeat (first | (with_reducible first | exact HB.out | apply below_alloc | apply pw_below_drewN | apply below_drew1 | refine below_set ?_ GE131.out) | exact HB.out))) : w.heap.size ≤ gb132)); have n5_ := Aside0.mk ((by rw [hg]; exact Nat.ne_of_lt (blk_lt (g := gb131) (o := .cells #[.int .i64 a0_0, .int .i64 a0_1, .string a0_2, .int .i64 a0_3, .int .i64 a0_4] 41 (0, 0)) (by (with_reducible repeat (first | refine blk_drewN ?_ _ | refine blk_drew ?_ | refine blk_alloc ?_ _)); exact BK131.out)) : gb131 ≠ gb132)); have n6_ := Aside0.mk ((by rw [hg]; exact Nat.ne_of_gt (blk_lt (g := gb131) (o := .cells #[.int .i64 a0_0, .int .i64 a0_1, .string a0_2, .int .i64 a0_3, .int .i64 a0_4] 41 (0, 0)) (by (with_reducible repeat (first | refine blk_drewN ?_ _ | refine blk_drew ?_ | refine blk_alloc ?_ _)); exact BK131.out)) : gb132 ≠ gb131)); clear BK131; clear HB; have BK131 := n0_; have HB := n1_; have BK132 := n2_; have GW132 := n3_; have GE132 := n4_; have NB131_132 := n5_; have NB132_131 := n6_; clear n0_ n1_ n2_ n3_ n4_ n5_ n6_; clear hb hbox hg; have hnb20 := NB131_132.out; have hnc20 := NB132_131.out; have hcz21_0 : w19.cell? ⟨gb131, 0, none⟩ = some (.int .i64 a0_0) := (blk_cell BK131.out 0).trans rfl; have hcz21_1 : w19.cell? ⟨gb131, 1, none⟩ = some (.int .i64 a0_1) := (blk_cell BK131.out 1).trans rfl; have hcz21_2 : w19.cell? ⟨gb131, 2, none⟩ = some (.string a0_2) := (blk_cell BK131.out 2).trans rfl; have hcz21_3 : w19.cell? ⟨gb131, 3, none⟩ = some (.int .i64 a0_3) := (blk_cell BK131.out 3).trans rfl; have hcz21_4 : w19.cell? ⟨gb131, 4, none⟩ = some (.int .i64 a0_4) := (blk_cell BK131.out 4).trans rfl; have hfz21_0 := blk_frozen BK131.out 0; have hfz21_1 := blk_frozen BK131.out 1; have hfz21_2 := blk_frozen BK131.out 2; have hfz21_3 := blk_frozen BK131.out 3; have hfz21_4 := blk_frozen BK131.out 4; have hcz22_0 : w19.cell? ⟨gb132, 0, none⟩ = some (.int .i64 a1_0) := (blk_cell BK132.out 0).trans rfl; have hcz22_1 : w19.cell? ⟨gb132, 1, none⟩ = some (.int .i64 a1_1) := (blk_cell BK132.out 1).trans rfl; have hcz22_2 : w19.cell? ⟨gb132, 2, none⟩ = some (.string a1_2) := (blk_cell BK132.out 2).trans rfl; have hcz22_3 : w19.cell? ⟨gb132, 3, none⟩ = some (.int .i64 a1_3) := (blk_cell BK132.out 3).trans rfl; have hcz22_4 : w19.cell? ⟨gb132, 4, none⟩ = some (.int .i64 a1_4) := (blk_cell BK132.out 4).trans rfl; have hfz22_0 := blk_frozen BK132.out 0; have hfz22_1 := blk_frozen BK132.out 1; have hfz22_2 := blk_frozen BK132.out 2; have hfz22_3 := blk_frozen BK132.out 3; have hfz22_4 := blk_frozen BK132.out 4))
          go_ret
          exact ⟨by first | rfl | (simp [errW_none, errW_some] <;> rfl) | (simp [*, errW_none, errW_some] <;> rfl), by repeat (first | (with_reducible first | exact HB.out | apply below_alloc | apply pw_below_drewN | apply below_drew1 | refine below_set ?_ GE131.out | refine below_set ?_ GE132.out) | exact HB.out)⟩
      · rw [if_neg c5] at H
        have c5b0 : (a0_2.toList == a1_2.toList) = false := beq_eq_false_iff_ne.mpr c5
        have c5b1 : (a0_2.toList != a1_2.toList) = true := bne_iff_ne.mpr c5
        obtain rfl := Option.some.inj H
        go_enter Try.func38, Try.ntmps38
        go_wp2_with (first | ((with_reducible refine gate_dst (N := 2) rfl ?_); refine box_event ?hg (N := 2) ?hd (cs := #[.int .i64 a0_0, .int .i64 a0_1, .string a0_2, .int .i64 a0_3, .int .i64 a0_4]) (t := 41) ?hr ?_; (case hd => rfl); (case hg => rfl); (case hr => first | (go_simp; done) | (go_simp; rfl)); intro gb131 hg w23 hbox hb; have n0_ := Aside0.mk (below_step (by repeat (first | (with_reducible first | exact HB.out | apply below_alloc | apply pw_below_drewN | apply below_drew1) | exact HB.out)) hb); have n1_ := Aside0.mk (hbox); have n2_ := Aside0.mk ((by rw [hg]; exact (below_size (by repeat (first | (with_reducible first | exact HB.out | apply below_alloc | apply pw_below_drewN | apply below_drew1) | exact HB.out))) : w.heap.size ≤ gb131)); have n3_ := Aside0.mk ((by rw [hg]; exact (below_size (by repeat (first | (with_reducible first | exact HB.out | apply below_alloc | apply pw_below_drewN | apply below_drew1) | exact HB.out))) : w.heap.size ≤ gb131)); clear HB; have HB := n0_; have BK131 := n1_; have GW131 := n2_; have GE131 := n3_; clear n0_ n1_ n2_ n3_; clear hb hbox hg) | ((with_reducible refine gate_dst (N := 3) rfl ?_); refine box_event ?hg (N := 3) ?hd (cs := #[.int .i64 a1_0, .int .i64 a1_1, .string a1_2, .int .i64 a1_3, .int .i64 a1_4]) (t := 41) ?hr ?_; (case hd => rfl); (case hg => rfl); (case hr => first | (go_simp; done) | (go_simp; rfl)); intro gb132 hg w24 hbox hb; have n0_ := Aside0.mk (blk_below (g := gb131) (o := .cells #[.int .i64 a0_0, .int .i64 a0_1, .string a0_2, .int .i64 a0_3, .int .i64 a0_4] 41 (0, 0)) (by (with_reducible repeat (first | refine blk_drewN ?_ _ | refine blk_drew ?_ | refine blk_alloc ?_ _)); exact BK131.out) hb); have n1_ := Aside0.mk (below_step (by repeat (first | (with_reducible first | exact HB.out | apply below_alloc | apply pw_below_drewN | apply below_drew1 | refine below_set ?_ GE131.out) | exact HB.out)) hb); have n2_ := Aside0.mk (hbox); have n3_ := Aside0.mk ((by rw [hg]; exact (below_size (by repeat (first | (with_reducible first | exact HB.out | apply below_alloc | apply pw_below_drewN | apply below_drew1 | refine below_set ?_ GE131.out) | exact HB.out))) : w.heap.size ≤ gb132)); have n4_ := Aside0.mk ((by rw [hg]; exact (below_size (by repeat (first | (with_reducible first | exact HB.out | apply below_alloc | apply pw_below_drewN | apply below_drew1 | refine below_set ?_ GE131.out) | exact HB.out))) : w.heap.size ≤ gb132)); have n5_ := Aside0.mk ((by rw [hg]; exact Nat.ne_of_lt (blk_lt (g := gb131) (o := .cells #[.int .i64 a0_0, .int .i64 a0_1, .string a0_2, .int .i64 a0_3, .int .i64 a0_4] 41 (0, 0)) (by (with_reducible repeat (first | refine blk_drewN ?_ _ | refine blk_drew ?_ | refine blk_alloc ?_ _)); exact BK131.out)) : gb131 ≠ gb132)); have n6_ := Aside0.mk ((by rw [hg]; exact Nat.ne_of_gt (blk_lt (g := gb131) (o := .cells #[.int .i64 a0_0, .int .i64 a0_1, .string a0_2, .int .i64 a0_3, .int .i64 a0_4] 41 (0, 0)) (by (with_reducible repeat (first | refine blk_drewN ?_ _ | refine blk_drew ?_ | refine blk_alloc ?_ _)); exact BK131.out)) : gb132 ≠ gb131)); clear BK131; clear HB; have BK131 := n0_; have HB := n1_; have BK132 := n2_; have GW132 := n3_; have GE132 := n4_; have NB131_132 := n5_; have NB132_131 := n6_; clear n0_ n1_ n2_ n3_ n4_ n5_ n6_; clear hb hbox hg; have hnb25 := NB131_132.out; have hnc25 := NB132_131.out; have hcz26_0 : w24.cell? ⟨gb131, 0, none⟩ = some (.int .i64 a0_0) := (blk_cell BK131.out 0).trans rfl; have hcz26_1 : w24.cell? ⟨gb131, 1, none⟩ = some (.int .i64 a0_1) := (blk_cell BK131.out 1).trans rfl; have hcz26_2 : w24.cell? ⟨gb131, 2, none⟩ = some (.string a0_2) := (blk_cell BK131.out 2).trans rfl; have hcz26_3 : w24.cell? ⟨gb131, 3, none⟩ = some (.int .i64 a0_3) := (blk_cell BK131.out 3).trans rfl; have hcz26_4 : w24.cell? ⟨gb131, 4, none⟩ = some (.int .i64 a0_4) := (blk_cell BK131.out 4).trans rfl; have hfz26_0 := blk_frozen BK131.out 0; have hfz26_1 := blk_frozen BK131.out 1; have hfz26_2 := blk_frozen BK131.out 2; have hfz26_3 := blk_frozen BK131.out 3; have hfz26_4 := blk_frozen BK131.out 4; have hcz27_0 : w24.cell? ⟨gb132, 0, none⟩ = some (.int .i64 a1_0) := (blk_cell BK132.out 0).trans rfl; have hcz27_1 : w24.cell? ⟨gb132, 1, none⟩ = some (.int .i64 a1_1) := (blk_cell BK132.out 1).trans rfl; have hcz27_2 : w24.cell? ⟨gb132, 2, none⟩ = some (.string a1_2) := (blk_cell BK132.out 2).trans rfl; have hcz27_3 : w24.cell? ⟨gb132, 3, none⟩ = some (.int .i64 a1_3) := (blk_cell BK132.out 3).trans rfl; have hcz27_4 : w24.cell? ⟨gb132, 4, none⟩ = some (.int .i64 a1_4) := (blk_cell BK132.out 4).trans rfl; have hfz27_0 := blk_frozen BK132.out 0; have hfz27_1 := blk_frozen BK132.out 1; have hfz27_2 := blk_frozen BK132.out 2; have hfz27_3 := blk_frozen BK132.out 3; have hfz27_4 := blk_frozen BK132.out 4))
        go_ret
        exact ⟨by first | rfl | (simp [errW_none, errW_some] <;> rfl) | (simp [*, errW_none, errW_some] <;> rfl), by repeat (first | (with_reducible first | exact HB.out | apply below_alloc | apply pw_below_drewN | apply below_drew1 | refine below_set ?_ GE131.out | refine below_set ?_ GE132.out) | exact HB.out)⟩
    · rw [if_neg c4] at H
      have c4b0 : (a0_1 == a1_1) = false := beq_eq_false_iff_ne.mpr c4
      have c4b1 : (a0_1 != a1_1) = true := bne_iff_ne.mpr c4
      obtain rfl := Option.some.inj H
      go_enter Try.func38, Try.ntmps38
      go_wp2_with (first | ((with_reducible refine gate_dst (N := 2) rfl ?_); refine box_event ?hg (N := 2) ?hd (cs := #[.int .i64 a0_0, .int .i64 a0_1, .string a0_2, .int .i64 a0_3, .int .i64 a0_4]) (t := 41) ?hr ?_; (case hd => rfl); (case hg => rfl); (case hr => first | (go_simp; done) | (go_simp; rfl)); intro gb131 hg w28 hbox hb; have n0_ := Aside0.mk (below_step (by repeat (first | (with_reducible first | exact HB.out | apply below_alloc | apply pw_below_drewN | apply below_drew1) | exact HB.out)) hb); have n1_ := Aside0.mk (hbox); have n2_ := Aside0.mk ((by rw [hg]; exact (below_size (by repeat (first | (with_reducible first | exact HB.out | apply below_alloc | apply pw_below_drewN | apply below_drew1) | exact HB.out))) : w.heap.size ≤ gb131)); have n3_ := Aside0.mk ((by rw [hg]; exact (below_size (by repeat (first | (with_reducible first | exact HB.out | apply below_alloc | apply pw_below_drewN | apply below_drew1) | exact HB.out))) : w.heap.size ≤ gb131)); clear HB; have HB := n0_; have BK131 := n1_; have GW131 := n2_; have GE131 := n3_; clear n0_ n1_ n2_ n3_; clear hb hbox hg) | ((with_reducible refine gate_dst (N := 3) rfl ?_); refine box_event ?hg (N := 3) ?hd (cs := #[.int .i64 a1_0, .int .i64 a1_1, .string a1_2, .int .i64 a1_3, .int .i64 a1_4]) (t := 41) ?hr ?_; (case hd => rfl); (case hg => rfl); (case hr => first | (go_simp; done) | (go_simp; rfl)); intro gb132 hg w29 hbox hb; have n0_ := Aside0.mk (blk_below (g := gb131) (o := .cells #[.int .i64 a0_0, .int .i64 a0_1, .string a0_2, .int .i64 a0_3, .int .i64 a0_4] 41 (0, 0)) (by (with_reducible repeat (first | refine blk_drewN ?_ _ | refine blk_drew ?_ | refine blk_alloc ?_ _)); exact BK131.out) hb); have n1_ := Aside0.mk (below_step (by repeat (first | (with_reducible first | exact HB.out | apply below_alloc | apply pw_below_drewN | apply below_drew1 | refine below_set ?_ GE131.out) | exact HB.out)) hb); have n2_ := Aside0.mk (hbox); have n3_ := Aside0.mk ((by rw [hg]; exact (below_size (by repeat (first | (with_reducible first | exact HB.out | apply below_alloc | apply pw_below_drewN | apply below_drew1 | refine below_set ?_ GE131.out) | exact HB.out))) : w.heap.size ≤ gb132)); have n4_ := Aside0.mk ((by rw [hg]; exact (below_size (by repeat (first | (with_reducible first | exact HB.out | apply below_alloc | apply pw_below_drewN | apply below_drew1 | refine below_set ?_ GE131.out) | exact HB.out))) : w.heap.size ≤ gb132)); have n5_ := Aside0.mk ((by rw [hg]; exact Nat.ne_of_lt (blk_lt (g := gb131) (o := .cells #[.int .i64 a0_0, .int .i64 a0_1, .string a0_2, .int .i64 a0_3, .int .i64 a0_4] 41 (0, 0)) (by (with_reducible repeat (first | refine blk_drewN ?_ _ | refine blk_drew ?_ | refine blk_alloc ?_ _)); exact BK131.out)) : gb131 ≠ gb132)); have n6_ := Aside0.mk ((by rw [hg]; exact Nat.ne_of_gt (blk_lt (g := gb131) (o := .cells #[.int .i64 a0_0, .int .i64 a0_1, .string a0_2, .int .i64 a0_3, .int .i64 a0_4] 41 (0, 0)) (by (with_reducible repeat (first | refine blk_drewN ?_ _ | refine blk_drew ?_ | refine blk_alloc ?_ _)); exact BK131.out)) : gb132 ≠ gb131)); clear BK131; clear HB; have BK131 := n0_; have HB := n1_; have BK132 := n2_; have GW132 := n3_; have GE132 := n4_; have NB131_132 := n5_; have NB132_131 := n6_; clear n0_ n1_ n2_ n3_ n4_ n5_ n6_; clear hb hbox hg; have hnb30 := NB131_132.out; have hnc30 := NB132_131.out; have hcz31_0 : w29.cell? ⟨gb131, 0, none⟩ = some (.int .i64 a0_0) := (blk_cell BK131.out 0).trans rfl; have hcz31_1 : w29.cell? ⟨gb131, 1, none⟩ = some (.int .i64 a0_1) := (blk_cell BK131.out 1).trans rfl; have hcz31_2 : w29.cell? ⟨gb131, 2, none⟩ = some (.string a0_2) := (blk_cell BK131.out 2).trans rfl; have hcz31_3 : w29.cell? ⟨gb131, 3, none⟩ = some (.int .i64 a0_3) := (blk_cell BK131.out 3).trans rfl; have hcz31_4 : w29.cell? ⟨gb131, 4, none⟩ = some (.int .i64 a0_4) := (blk_cell BK131.out 4).trans rfl; have hfz31_0 := blk_frozen BK131.out 0; have hfz31_1 := blk_frozen BK131.out 1; have hfz31_2 := blk_frozen BK131.out 2; have hfz31_3 := blk_frozen BK131.out 3; have hfz31_4 := blk_frozen BK131.out 4; have hcz32_0 : w29.cell? ⟨gb132, 0, none⟩ = some (.int .i64 a1_0) := (blk_cell BK132.out 0).trans rfl; have hcz32_1 : w29.cell? ⟨gb132, 1, none⟩ = some (.int .i64 a1_1) := (blk_cell BK132.out 1).trans rfl; have hcz32_2 : w29.cell? ⟨gb132, 2, none⟩ = some (.string a1_2) := (blk_cell BK132.out 2).trans rfl; have hcz32_3 : w29.cell? ⟨gb132, 3, none⟩ = some (.int .i64 a1_3) := (blk_cell BK132.out 3).trans rfl; have hcz32_4 : w29.cell? ⟨gb132, 4, none⟩ = some (.int .i64 a1_4) := (blk_cell BK132.out 4).trans rfl; have hfz32_0 := blk_frozen BK132.out 0; have hfz32_1 := blk_frozen BK132.out 1; have hfz32_2 := blk_frozen BK132.out 2; have hfz32_3 := blk_frozen BK132.out 3; have hfz32_4 := blk_frozen BK132.out 4))
      go_ret
      exact ⟨by first | rfl | (simp [errW_none, errW_some] <;> rfl) | (simp [*, errW_none, errW_some] <;> rfl), by repeat (first | (with_reducible first | exact HB.out | apply below_alloc | apply pw_below_drewN | apply below_drew1 | refine below_set ?_ GE131.out | refine below_set ?_ GE132.out) | exact HB.out)⟩
  · rw [if_neg c3] at H
    have c3b0 : (a0_0 == a1_0) = false := beq_eq_false_iff_ne.mpr c3
    have c3b1 : (a0_0 != a1_0) = true := bne_iff_ne.mpr c3
    obtain rfl := Option.some.inj H
    go_enter Try.func38, Try.ntmps38
    go_wp2_with (first | ((with_reducible refine gate_dst (N := 2) rfl ?_); refine box_event ?hg (N := 2) ?hd (cs := #[.int .i64 a0_0, .int .i64 a0_1, .string a0_2, .int .i64 a0_3, .int .i64 a0_4]) (t := 41) ?hr ?_; (case hd => rfl); (case hg => rfl); (case hr => first | (go_simp; done) | (go_simp; rfl)); intro gb131 hg w33 hbox hb; have n0_ := Aside0.mk (below_step (by repeat (first | (with_reducible first | exact HB.out | apply below_alloc | apply pw_below_drewN | apply below_drew1) | exact HB.out)) hb); have n1_ := Aside0.mk (hbox); have n2_ := Aside0.mk ((by rw [hg]; exact (below_size (by repeat (first | (with_reducible first | exact HB.out | apply below_alloc | apply pw_below_drewN | apply below_drew1) | exact HB.out))) : w.heap.size ≤ gb131)); have n3_ := Aside0.mk ((by rw [hg]; exact (below_size (by repeat (first | (with_reducible first | exact HB.out | apply below_alloc | apply pw_below_drewN | apply below_drew1) | exact HB.out))) : w.heap.size ≤ gb131)); clear HB; have HB := n0_; have BK131 := n1_; have GW131 := n2_; have GE131 := n3_; clear n0_ n1_ n2_ n3_; clear hb hbox hg) | ((with_reducible refine gate_dst (N := 3) rfl ?_); refine box_event ?hg (N := 3) ?hd (cs := #[.int .i64 a1_0, .int .i64 a1_1, .string a1_2, .int .i64 a1_3, .int .i64 a1_4]) (t := 41) ?hr ?_; (case hd => rfl); (case hg => rfl); (case hr => first | (go_simp; done) | (go_simp; rfl)); intro gb132 hg w34 hbox hb; have n0_ := Aside0.mk (blk_below (g := gb131) (o := .cells #[.int .i64 a0_0, .int .i64 a0_1, .string a0_2, .int .i64 a0_3, .int .i64 a0_4] 41 (0, 0)) (by (with_reducible repeat (first | refine blk_drewN ?_ _ | refine blk_drew ?_ | refine blk_alloc ?_ _)); exact BK131.out) hb); have n1_ := Aside0.mk (below_step (by repeat (first | (with_reducible first | exact HB.out | apply below_alloc | apply pw_below_drewN | apply below_drew1 | refine below_set ?_ GE131.out) | exact HB.out)) hb); have n2_ := Aside0.mk (hbox); have n3_ := Aside0.mk ((by rw [hg]; exact (below_size (by repeat (first | (with_reducible first | exact HB.out | apply below_alloc | apply pw_below_drewN | apply below_drew1 | refine below_set ?_ GE131.out) | exact HB.out))) : w.heap.size ≤ gb132)); have n4_ := Aside0.mk ((by rw [hg]; exact (below_size (by repeat (first | (with_reducible first | exact HB.out | apply below_alloc | apply pw_below_drewN | apply below_drew1 | refine below_set ?_ GE131.out) | exact HB.out))) : w.heap.size ≤ gb132)); have n5_ := Aside0.mk ((by rw [hg]; exact Nat.ne_of_lt (blk_lt (g := gb131) (o := .cells #[.int .i64 a0_0, .int .i64 a0_1, .string a0_2, .int .i64 a0_3, .int .i64 a0_4] 41 (0, 0)) (by (with_reducible repeat (first | refine blk_drewN ?_ _ | refine blk_drew ?_ | refine blk_alloc ?_ _)); exact BK131.out)) : gb131 ≠ gb132)); have n6_ := Aside0.mk ((by rw [hg]; exact Nat.ne_of_gt (blk_lt (g := gb131) (o := .cells #[.int .i64 a0_0, .int .i64 a0_1, .string a0_2, .int .i64 a0_3, .int .i64 a0_4] 41 (0, 0)) (by (with_reducible repeat (first | refine blk_drewN ?_ _ | refine blk_drew ?_ | refine blk_alloc ?_ _)); exact BK131.out)) : gb132 ≠ gb131)); clear BK131; clear HB; have BK131 := n0_; have HB := n1_; have BK132 := n2_; have GW132 := n3_; have GE132 := n4_; have NB131_132 := n5_; have NB132_131 := n6_; clear n0_ n1_ n2_ n3_ n4_ n5_ n6_; clear hb hbox hg; have hnb35 := NB131_132.out; have hnc35 := NB132_131.out; have hcz36_0 : w34.cell? ⟨gb131, 0, none⟩ = some (.int .i64 a0_0) := (blk_cell BK131.out 0).trans rfl; have hcz36_1 : w34.cell? ⟨gb131, 1, none⟩ = some (.int .i64 a0_1) := (blk_cell BK131.out 1).trans rfl; have hcz36_2 : w34.cell? ⟨gb131, 2, none⟩ = some (.string a0_2) := (blk_cell BK131.out 2).trans rfl; have hcz36_3 : w34.cell? ⟨gb131, 3, none⟩ = some (.int .i64 a0_3) := (blk_cell BK131.out 3).trans rfl; have hcz36_4 : w34.cell? ⟨gb131, 4, none⟩ = some (.int .i64 a0_4) := (blk_cell BK131.out 4).trans rfl; have hfz36_0 := blk_frozen BK131.out 0; have hfz36_1 := blk_frozen BK131.out 1; have hfz36_2 := blk_frozen BK131.out 2; have hfz36_3 := blk_frozen BK131.out 3; have hfz36_4 := blk_frozen BK131.out 4; have hcz37_0 : w34.cell? ⟨gb132, 0, none⟩ = some (.int .i64 a1_0) := (blk_cell BK132.out 0).trans rfl; have hcz37_1 : w34.cell? ⟨gb132, 1, none⟩ = some (.int .i64 a1_1) := (blk_cell BK132.out 1).trans rfl; have hcz37_2 : w34.cell? ⟨gb132, 2, none⟩ = some (.string a1_2) := (blk_cell BK132.out 2).trans rfl; have hcz37_3 : w34.cell? ⟨gb132, 3, none⟩ = some (.int .i64 a1_3) := (blk_cell BK132.out 3).trans rfl; have hcz37_4 : w34.cell? ⟨gb132, 4, none⟩ = some (.int .i64 a1_4) := (blk_cell BK132.out 4).trans rfl; have hfz37_0 := blk_frozen BK132.out 0; have hfz37_1 := blk_frozen BK132.out 1; have hfz37_2 := blk_frozen BK132.out 2; have hfz37_3 := blk_frozen BK132.out 3; have hfz37_4 := blk_frozen BK132.out 4))
    go_ret
    exact ⟨by first | rfl | (simp [errW_none, errW_some] <;> rfl) | (simp [*, errW_none, errW_some] <;> rfl), by repeat (first | (with_reducible first | exact HB.out | apply below_alloc | apply pw_below_drewN | apply below_drew1 | refine below_set ?_ GE131.out | refine below_set ?_ GE132.out) | exact HB.out)⟩

end Go.Proofs.Ytoioineibfldcaa.K
end
