/-
  A law of my own for 'for x := range f' where the iterator writes cells of its own between two rounds: which blocks either side may turn is told by what the blocks are ('Turn M B': only blocks at or beyond B of which M holds may have changed). No condition.
-/
import Derived.RangeFuncNested
import Derived.RangeFuncBound
import Derived.RangeFuncCalls
import Derived.RangeFuncLeaves
import Derived.RangeFuncFrom
import Derived.Laws.OwnMore
namespace Go.Proofs.Ytoioineibfldcaa.T
open Go Go.RowKit

/-- Only blocks at or beyond B of which M holds may have changed; new blocks may lie behind. -/
structure Turn (M : Obj → Prop) (B : Nat) (w w' : World) : Prop where
  os : w'.os = w.os
  tape : w'.tape = w.tape
  output : w'.output = w.output
  size : w.heap.size ≤ w'.heap.size
  block : ∀ k, k < w.heap.size → (k < B ∨ ∀ o, w.heap[k]? = some o → ¬ M o) → w'.heap[k]? = w.heap[k]?

section
variable {M M' : Obj → Prop} {B B' : Nat} {w w' w'' : World}
theorem Turn.refl (M : Obj → Prop) (B : Nat) (w : World) : Turn M B w w := ⟨rfl, rfl, rfl, Nat.le_refl _, fun _ _ _ => rfl⟩
theorem Turn.trans (h : Turn M B w w') (k : Turn M B w' w'') : Turn M B w w'' :=
  ⟨k.os.trans h.os, k.tape.trans h.tape, k.output.trans h.output, Nat.le_trans h.size k.size, fun i hi hb => by
    have e := h.block i hi hb
    exact (k.block i (Nat.lt_of_lt_of_le hi h.size) (hb.imp id (fun hM o ho => hM o (e ▸ ho)))).trans e⟩
theorem Turn.imp (h : Turn M B w w') (hM : ∀ o, M o → M' o) : Turn M' B w w' :=
  ⟨h.os, h.tape, h.output, h.size, fun i hi hb => h.block i hi (hb.imp id (fun hn o ho hm => hn o ho (hM o hm)))⟩
theorem Turn.lower (h : Turn M B w w') (hB : B' ≤ B) : Turn M B' w w' :=
  ⟨h.os, h.tape, h.output, h.size, fun i hi hb => h.block i hi (hb.imp (fun hlt => by omega) id)⟩
theorem Turn.below (h : Turn M B w w') (hB : B ≤ w.heap.size) : Below B w w' :=
  ⟨h.os, h.tape, h.output, h.size, fun k hk => h.block k (by omega) (.inl hk)⟩
theorem Turn.of_below (h : Below w.heap.size w w') : Turn M B w w' := ⟨h.os, h.tape, h.output, h.size, fun k hk _ => h.block k hk⟩
theorem Turn.alloc (h : Turn M B w w') (o : Obj) : Turn M B w (w'.alloc o) := h.trans (Turn.of_below ((Below.refl _ _).alloc (Nat.le_refl _) o))
theorem Turn.drew (h : Turn M B w w') : Turn M B w w'.drew := h.trans ⟨rfl, rfl, rfl, Nat.le_refl _, fun _ _ _ => rfl⟩
theorem Turn.setCell (h : Turn M B w w') {p : Addr} {o : Obj} (hp : B ≤ p.block) (ho : w'.heap[p.block]? = some o) (hM : M o) (u : Value) : Turn M B w (w'.setCell p u) :=
  h.trans ⟨rfl, rfl, rfl, by simp [World.setCell], fun k hk hb => Below.heap_setCell _ _ _ _ (fun e => by
    subst e
    rcases hb with hb | hb
    · omega
    · exact hb o ho hM)⟩
theorem Turn.grown {row : Option Nat} (h : Turn M B w w') (hg : w'.grownBy w'' row) (hr : ∀ k, row = some k → B ≤ k ∧ ∃ o, w'.heap[k]? = some o ∧ M o) : Turn M B w w'' :=
  h.trans ⟨hg.os, hg.tape, hg.output, hg.size, fun k hk hb => hg.block k hk (fun e => by
    obtain ⟨h1, o, h2, h3⟩ := hr k e.symm
    rcases hb with hb | hb
    · omega
    · exact hb o h2 h3)⟩
theorem Turn.putObj (h : Turn M B w w') {l : Nat} {o : Obj} (hl : B ≤ l) (ho : w'.heap[l]? = some o) (hM : M o) (o' : Obj) : Turn M B w (w'.putObj l o') :=
  h.grown (grownBy_putObj' w' l o') (fun k e => by cases e; exact ⟨hl, o, ho, hM⟩)
theorem Turn.keep (h : Turn M B w w') {k : Nat} {o : Obj} (hk : w.heap[k]? = some o) (hM : ¬ M o) : w'.heap[k]? = some o :=
  (h.block k (Array.getElem?_eq_some_iff.1 hk).1 (.inr (fun o' ho' => by rw [hk] at ho'; cases ho'; exact hM))).trans hk
theorem Turn.cell (h : Turn M B w w') {p : Addr} {u : Value} (hc : w.cell? p = some u) (hM : ∀ cs e fr, w.heap[p.block]? = some (.cells cs e fr) → ¬ M (.cells cs e fr)) : w'.cell? p = some u := by
  refine (World.cell?_of_block (w := w) (h.block p.block (World.block_lt_of_cell? w p hc) (.inr fun o ho hm => ?_))).trans hc
  cases o with
  | cells cs e fr => exact hM cs e fr ho hm
  | _ => simp [World.cell?, ho] at hc
theorem Turn.own (h : Turn M B w w') {base : Nat} {e : TypeId} {size n : Nat} {v : Value} {xs : List Value} (ho : w.ownsRow base e size v n xs) (hM : ∀ cs fr, ¬ M (.cells cs e fr)) : w'.ownsRow base e size v n xs := by
  obtain ⟨h1, h2⟩ := ho
  refine ⟨h1, ?_⟩
  rcases h2 with h2 | ⟨g, cap, cur, rfl, hg, hh, r⟩
  · exact .inl h2
  · exact .inr ⟨g, cap, cur, rfl, hg, h.keep hh (hM _ _), r⟩
end

/-- A state that abides the turns that M and B allow. -/
def Abides {β : Type} (M : Obj → Prop) (B : Nat) (J : β → World → Prop) : Prop := ∀ s W W', J s W → Turn M B W W' → J s W'
theorem Abides.imp {β : Type} {M M' : Obj → Prop} {B B' : Nat} {J : β → World → Prop} (h : Abides M B J) (hM : ∀ o, M' o → M o) (hB : B ≤ B') : Abides M' B' J :=
  fun s W W' hs ht => h s W W' hs ((ht.imp hM).lower hB)

/-- The contract of an iterator that yields Y: between two rounds it turns what Mi allows, a round turns what Mr allows. -/
def SeqT {α : Type} (F : Fence) (n : Nat) (P : Program) (g : Nat) (lb : Array Value) (encs : α → Array Value) (Mi Mr : Obj → Prop) (B : Nat) (Y : List α) (w : World) : Prop :=
  ∀ (l : Nat) (J Jx : List α → World → Prop) (W : World), Below w.heap.size w W → Abides Mi w.heap.size J → Abides Mi w.heap.size Jx →
    (∀ pre x W1, J pre W1 → pre ++ [x] <+: Y → YieldAt F (n - 1) P l (encs x) W1 fun e W' =>
      (e = .returned (.bool true) ∧ J (pre ++ [x]) W' ∧ Turn Mr B W1 W') ∨ (e = .returned (.bool false) ∧ Jx (pre ++ [x]) W')) →
    J [] W →
    CallsIn F n P g (#[.func (.yield l) #[] #[]] ++ lb) W fun e W' => (∃ v, e = .returned v) ∧ (J Y W' ∨ ∃ pre, pre <+: Y ∧ Jx pre W')

/-- How the body of a round may be left. -/
def bodyT {α : Type} (Mr : Obj → Prop) (B : Nat) (I : List α → World → Prop) (Ix : Code → List α → World → Prop) (xs : List α) (W : World) : Exit → Act → World → Prop
  | .normal, _, W' => KeepsOthers W W' ∧ Turn Mr B W W' ∧ I xs W'
  | .ret, _, W' => KeepsOthers W W' ∧ Ix .ret xs W'
  | .exit id, _, W' => KeepsOthers W W' ∧ Ix (.exit id) xs W'
  | .goto t, _, W' => KeepsOthers W W' ∧ Ix (.goto t) xs W'
  | .panic _, _, _ => False
  | .outgrown, _, _ => False

variable {F : Fence} {n : Nat} {P : Program}

theorem wpIn_rangeFunc_T {α : Type} {g : Operand} {ps : Array Tmp} {assign body : Code} {Q : Exit → Act → World → Prop} {a : Act} {w : World}
    (hro : F.round = none) (h1 : 1 ≤ n) {gf : Nat} {lb : Array Value} (hg : a.eval g = .func (.func gf) #[] lb) (hFg : F.fn gf) (eg : ∀ args w, (callFunc gf args).run P w = .ok (.enter gf args) w)
    {encs : α → Array Value} {Mi Mr : Obj → Prop} (hMi : ∀ o, Mi o → o.isCells = true) (hMr : ∀ o, o.isCells = false → Mr o) {B : Nat} (hB : B ≤ w.heap.size) {Y : List α}
    (hseq : SeqT F (n - 1) P gf lb encs Mi Mr B Y w) (hps : ∀ x, (encs x).size = ps.size)
    (I : List α → World → Prop) (Ix : Code → List α → World → Prop) (hI : Abides (fun o => Mi o ∨ o.isCells = false) w.heap.size I) (hIx : ∀ c, Abides (fun o => Mi o ∨ o.isCells = false) w.heap.size (Ix c)) (h0 : I [] w) (a₁ : α → Act)
    (hassign : ∀ (l : Nat) (x : α) (W : World) (K : Act → World → Prop), K (a₁ x) W →
      assign.wpIn (F.inRound l) (n - 1 - 1) P (Exit.then K (fun _ _ _ => False)) { tmps := (ps.zip (encs x)).foldl (fun t (p, v) => t.setIfInBounds p v) a.tmps, defers := [] } W)
    (hbody : ∀ (l : Nat) (pre : List α) (x : α) (W : World), I pre W → pre ++ [x] <+: Y → body.wpIn (F.inRound l) (n - 1 - 1) P (bodyT Mr B I Ix (pre ++ [x]) W) (a₁ x) W)
    (hdone : ∀ (D : Nat) (W : World), w.heap.size ≤ D → I Y W → W.heap[D]? = some (.deferred (some [])) → Q .normal { a with defers := { target := .collected D, args := #[] } :: a.defers } W)
    (hstop : ∀ (D : Nat) (c : Code) (pre : List α) (W : World), w.heap.size ≤ D → pre <+: Y → Ix c pre W → W.heap[D]? = some (.deferred (some [])) → c.wpIn F n P Q { a with defers := { target := .collected D, args := #[] } :: a.defers } W) :
    (Code.rangeFunc g ps assign body).wpIn F n P Q a w := by
  refine wpIn_rangeFunc ?_
  intro fn hfn
  rw [hro]
  obtain ⟨rec, hrec⟩ : ∃ rec : LoopState → Option Code → Loop, rec = fun st pe => { state := st, pending := pe, fn, tmps := a.tmps, params := ps, assign, body, defers := w.heap.size } := ⟨_, rfl⟩
  obtain ⟨W1, hW1⟩ : ∃ W1, (w.alloc (.deferred (some []))).alloc (.loop (rec .ready none)) = W1 := ⟨_, rfl⟩
  have hL1 : W1.heap[w.heap.size + 1]? = some (.loop (rec .ready none)) := by
    rw [← hW1]; have := World.alloc_heap_new (w.alloc (.deferred (some []))) (.loop (rec .ready none)); rwa [World.size_alloc] at this
  have hK1 : W1.heap[w.heap.size]? = some (.deferred (some [])) := by
    rw [← hW1]; exact (Below.heap_alloc _ _ _ (by simp)).trans (World.alloc_heap_new w _)
  have hb1 : Below w.heap.size w W1 := by
    rw [← hW1]; exact ((Below.refl _ w).alloc (Nat.le_refl _) _).alloc (by simp) _
  have hI1 : I [] W1 := hI _ _ _ h0 (Turn.of_below hb1)
  have put : ∀ {J : List α → World → Prop} {pre : List α} {W : World} {l : Nat} {o : Obj}, Abides (fun o => Mi o ∨ o.isCells = false) w.heap.size J → J pre W → w.heap.size ≤ l → W.heap[l]? = some o → o.isCells = false → ∀ o', J pre (W.putObj l o') :=
    fun hJ hj hl ho hc o' => hJ _ _ _ hj ((Turn.refl _ _ _).putObj hl ho (.inr hc) o')
  have notMi : ∀ o : Obj, o.isCells = false → ¬ Mi o := fun o ho hm => by have := hMi o hm; rw [ho] at this; cases this
  refine ⟨w.heap.size + 1, [{ target := .collected w.heap.size, args := #[] }], W1, { target := .fn (.func gf) lb, args := #[.func (.yield (w.heap.size + 1)) #[] #[]] }, W1, gf,
    #[.func (.yield (w.heap.size + 1)) #[] #[]] ++ lb, W1, ?_, ?_, ?_, ?_, fun _ => h1, ?_⟩
  · rw [← hW1, hrec]; exact run_enterLoop_outer _ _ _ _ _
  · simp only [resolve, hg]
    simp [go_sem]
  · intro f' hf'; simp [Target.leads] at hf'; subst hf'; exact hFg
  · simp [invoke, go_sem, eg]
  · refine (hseq (w.heap.size + 1)
      (fun pre W => I pre W ∧ W.heap[w.heap.size + 1]? = some (.loop (rec .ready none)) ∧ W.heap[w.heap.size]? = some (.deferred (some [])))
      (fun pre W => ∃ c, Ix c pre W ∧ W.heap[w.heap.size + 1]? = some (.loop (rec .done (some c))) ∧ W.heap[w.heap.size]? = some (.deferred (some [])))
      W1 hb1
      (fun s A C hs ht => ⟨hI s A C hs.1 (ht.imp fun _ => .inl), ht.keep hs.2.1 (notMi _ rfl), ht.keep hs.2.2 (notMi _ rfl)⟩)
      (fun s A C hs ht => by
        obtain ⟨c, hc, hl, hk⟩ := hs
        exact ⟨c, hIx c s A C hc (ht.imp fun _ => .inl), ht.keep hl (notMi _ rfl), ht.keep hk (notMi _ rfl)⟩)
      ?_ ⟨hI1, hL1, hK1⟩).mono ?_
    · -- one round
      rintro pre x W ⟨hi, hl, hk⟩ hlen
      have hlt : w.heap.size + 1 < W.heap.size := (Array.getElem?_eq_some_iff.1 hl).1
      have hy := run_yield (P := P) (args := encs x) hl (by rw [hrec]; exact hps x)
      rw [hrec] at hy
      refine ⟨fn, _, assign, body, hy, roundIn_of_wpIn hfn (hassign _ x W _ ⟨_, run_beginRound hl (by rw [hrec]), ?_⟩)⟩
      have hl2 : (W.putObj (w.heap.size + 1) (.loop { rec .ready none with state := .busy })).heap[w.heap.size + 1]? = some (.loop { rec .ready none with state := .busy }) := World.putObj_heap_same hlt
      have hk2 : (W.putObj (w.heap.size + 1) (.loop { rec .ready none with state := .busy })).heap[w.heap.size]? = some (.deferred (some [])) := (World.putObj_heap_other (by omega)).trans hk
      have hw2 : Turn Mr B W (W.putObj (w.heap.size + 1) (.loop { rec .ready none with state := .busy })) := (Turn.refl _ _ _).putObj (by omega) hl (hMr _ rfl) _
      refine wpIn_mono (hbody _ pre x _ (put hI hi (by omega) hl rfl _) hlen) ?_
      have fin : ∀ (jump : Option Code) (W3 : World), KeepsOthers (W.putObj (w.heap.size + 1) (.loop { rec .ready none with state := .busy })) W3 →
          (Instr.endRound (w.heap.size + 1) jump).run P W3 = .ok (.bool jump.isNone) (W3.putObj (w.heap.size + 1) (.loop (rec (if jump.isNone then .ready else .done) jump))) ∧
          W3.heap[w.heap.size + 1]? = some (.loop { rec .ready none with state := .busy }) ∧
          (W3.putObj (w.heap.size + 1) (.loop (rec (if jump.isNone then .ready else .done) jump))).heap[w.heap.size + 1]? = some (.loop (rec (if jump.isNone then .ready else .done) jump)) ∧
          (W3.putObj (w.heap.size + 1) (.loop (rec (if jump.isNone then .ready else .done) jump))).heap[w.heap.size]? = some (.deferred (some [])) := fun jump W3 hk3 => by
        have hl3 := hk3.same _ _ hl2 rfl
        have := run_endRound (P := P) jump hl3
        rw [hrec] at this ⊢
        exact ⟨this, by rw [hrec] at hl3; exact hl3, World.putObj_heap_same (Array.getElem?_eq_some_iff.1 hl3).1, (World.putObj_heap_other (by omega)).trans (hk3.same _ _ hk2 rfl)⟩
      rintro e a3 W3 hp
      cases e with
      | normal =>
        obtain ⟨hk3, hkp3, hi3⟩ := hp
        obtain ⟨hr, hl3, hl4, hk4⟩ := fin none W3 hk3
        exact ⟨_, _, hr, .inl ⟨rfl, ⟨put hI hi3 (by omega) hl3 rfl _, hl4, hk4⟩, (hw2.trans hkp3).putObj (by omega) hl3 (hMr _ rfl) _⟩⟩
      | ret =>
        obtain ⟨hk3, hi3⟩ := hp
        obtain ⟨hr, hl3, hl4, hk4⟩ := fin (some .ret) W3 hk3
        exact ⟨_, _, hr, .inr ⟨rfl, .ret, put (hIx _) hi3 (by omega) hl3 rfl _, hl4, hk4⟩⟩
      | exit id =>
        obtain ⟨hk3, hi3⟩ := hp
        obtain ⟨hr, hl3, hl4, hk4⟩ := fin (some (.exit id)) W3 hk3
        exact ⟨_, _, hr, .inr ⟨rfl, .exit id, put (hIx _) hi3 (by omega) hl3 rfl _, hl4, hk4⟩⟩
      | goto t =>
        obtain ⟨hk3, hi3⟩ := hp
        obtain ⟨hr, hl3, hl4, hk4⟩ := fin (some (.goto t)) W3 hk3
        exact ⟨_, _, hr, .inr ⟨rfl, .goto t, put (hIx _) hi3 (by omega) hl3 rfl _, hl4, hk4⟩⟩
      | panic ch => exact hp.elim
      | outgrown => exact hp.elim
    · -- behind the iterator
      rintro e W2 ⟨⟨v, rfl⟩, (⟨hi, hl, hk⟩ | ⟨pre, hpre, c, hi, hl, hk⟩)⟩
      · exact ⟨none, _, by have := run_endLoop (P := P) hl (by rw [hrec]; simp); rw [hrec] at this; exact this, hdone _ _ (Nat.le_refl _) (put hI hi (by omega) hl rfl _) ((World.putObj_heap_other (by omega)).trans hk)⟩
      · exact ⟨some c, _, by have := run_endLoop (P := P) hl (by rw [hrec]; simp); rw [hrec] at this; exact this, hstop _ c pre _ (Nat.le_refl _) hpre (put (hIx c) hi (by omega) hl rfl _) ((World.putObj_heap_other (by omega)).trans hk)⟩
end Go.Proofs.Ytoioineibfldcaa.T
