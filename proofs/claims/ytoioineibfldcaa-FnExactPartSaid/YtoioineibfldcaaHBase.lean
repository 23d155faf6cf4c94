/-
  The plain functions behind impl.heights (what it yields for a list of kid counts) and the words for its memory. No condition.
-/
import Derived.Test.YtoioineibfldcaaKx0
import Derived.Test.YtoioineibfldcaaHTurn
set_option linter.unusedVariables false
namespace Go.Proofs.Ytoioineibfldcaa.K
open Go.RowKit Go.Proofs.YtoioineibfldcaaW.PrintWords Go.Proofs.YtoioineibfldcaaW.PrintLast Go.Proofs.YtoioineibfldcaaW.PrintMore
open Go.Proofs.Ytoioineibfldcaa.T

/-- A node's kids, folded: how deep, and where it begins. -/
def foldKid (w kid : Int × Int) (first : Bool) : Int × Int := ((if w.1 < kid.1 + 1 then kid.1 + 1 else w.1), if first then kid.2 else w.2)
def foldKids (w : Int × Int) : List (Int × Int) → Int × Int
  | [] => w
  | kid :: r => (r.foldl (fun w kid => foldKid w kid false) (foldKid w kid true))

theorem foldKids_snoc (w : Int × Int) (xs : List (Int × Int)) (k : Int × Int) : foldKids w (xs ++ [k]) = foldKid (foldKids w xs) k xs.isEmpty := by
  cases xs with
  | nil => rfl
  | cons x r => simp [foldKids, List.foldl_append]
theorem foldKids_take (w : Int × Int) (xs : List (Int × Int)) (j : Nat) (h : j < xs.length) : foldKids w (xs.take (j + 1)) = foldKid (foldKids w (xs.take j)) (xs.getD j (0, 0)) (j == 0) := by
  rw [List.take_succ_eq_append_getElem h, foldKids_snoc, List.getD_eq_getElem?_getD, List.getElem?_eq_getElem h]
  congr 1
  cases j with
  | zero => simp
  | succ j =>
    cases xs with
    | nil => simp at h
    | cons x r => simp

/-- What heights yields from the stack st and the index i on. -/
def hts : List (Int × Int) → Int → List Int → List (Int × Int)
  | st, _, [] => if st.length = 1 then [] else [(-1, -1)]
  | st, i, k :: ks => if k < 0 ∨ (st.length : Int) < k then [(-1, -1)] else
      let e := foldKids (1, i) (st.drop (st.length - k.toNat))
      e :: hts (st.take (st.length - k.toNat) ++ [e]) (i + 1) ks

theorem hts_bad (st : List (Int × Int)) (i k : Int) (ks : List Int) (h : k < 0 ∨ (st.length : Int) < k) : hts st i (k :: ks) = [(-1, -1)] := by
  rw [hts, if_pos h]
theorem hts_ok (st : List (Int × Int)) (i k : Int) (ks : List Int) (h : ¬ (k < 0 ∨ (st.length : Int) < k)) :
    hts st i (k :: ks) = foldKids (1, i) (st.drop (st.length - k.toNat)) :: hts (st.take (st.length - k.toNat) ++ [foldKids (1, i) (st.drop (st.length - k.toNat))]) (i + 1) ks := by
  rw [hts, if_neg h]
theorem drop_f3 (l0 : List S41) (i : Nat) (h : i < l0.length) : (l0.map (·.f3)).drop i = (rd_T41 l0 (i : Int)).f3 :: (l0.map (·.f3)).drop (i + 1) := by
  rw [List.drop_eq_getElem_cons (by simpa using h)]
  simp [rd_T41, List.getD_eq_getElem?_getD, h]
theorem foldKids_snd (w : Int × Int) (i : Int) (xs : List (Int × Int)) (hw : 0 ≤ w.2 ∧ w.2 ≤ i) (hx : ∀ e ∈ xs, 0 ≤ e.2 ∧ e.2 < i) : 0 ≤ (foldKids w xs).2 ∧ (foldKids w xs).2 ≤ i := by
  cases xs with
  | nil => exact hw
  | cons x r =>
    have key : ∀ (r : List (Int × Int)) (w : Int × Int), (r.foldl (fun w kid => foldKid w kid false) w).2 = w.2 := by
      intro r
      induction r with
      | nil => intro w; rfl
      | cons y r ih => intro w; rw [List.foldl_cons, ih]; rfl
    have h1 := hx x (by simp)
    have h2 : (foldKids w (x :: r)).2 = x.2 := by rw [foldKids, key]; rfl
    rw [h2]
    omega

theorem pre_snoc {α : Type} (pre : List α) (x : α) (r : List α) : pre ++ [x] <+: pre ++ x :: r := ⟨r, by simp⟩

def encSt (st : List (Int × Int)) : List Value := st.flatMap fun e => [.int .i64 e.1, .int .i64 e.2]

def Ty (T : List Nat) (o : Obj) : Prop := ∃ cs e fr, o = .cells cs e fr ∧ e ∈ T
abbrev MiH : Obj → Prop := Ty [41, 76]
abbrev MrH : Obj → Prop := fun o => o.isCells = false ∨ Ty [3, 56] o
abbrev encsH (x : Int × Int) : Array Value := #[.int .i64 x.1, .int .i64 x.2]

def Blk (w : World) (g : Nat) (t : TypeId) (cs : Array Value) : Prop := w.heap[g]? = some (.cells cs t (0, 0))
section
variable {w w' : World} {g : Nat} {t : TypeId} {cs : Array Value}
theorem Blk.lt (h : Blk w g t cs) : g < w.heap.size := (Array.getElem?_eq_some_iff.1 h).1
theorem Blk.cell (h : Blk w g t cs) (i : Nat) : w.cell? ⟨g, i, none⟩ = cs[i]? := cell_of_row w g i cs t (0, 0) h
theorem Blk.frozen (h : Blk w g t cs) (i : Nat) : w.frozen? ⟨g, i, none⟩ = false := by
  unfold Blk at h
  simp [World.frozen?, h]
theorem Blk.new (w : World) (t : TypeId) (cs : Array Value) : Blk (w.alloc (.cells cs t)) w.heap.size t cs := heap_alloc_new w _
theorem Blk.drew (h : Blk w g t cs) : Blk w.drew g t cs := h
theorem Blk.alloc (h : Blk w g t cs) (o : Obj) : Blk (w.alloc o) g t cs := (Below.heap_alloc w o g h.lt).trans h
theorem Blk.set_ (h : Blk w g t cs) (i : Nat) (u : Value) : Blk (w.setCell ⟨g, i, none⟩ u) g t (cs.setIfInBounds i u) := by
  unfold Blk at h ⊢
  simp [World.setCell, Array.getElem?_modify, h]
theorem Blk.far (h : Blk w g t cs) {p : Addr} (hp : g ≠ p.block) (u : Value) : Blk (w.setCell p u) g t cs := (Below.heap_setCell w p u g hp).trans h
theorem Blk.grown {row : Option Nat} (h : Blk w g t cs) (hb : w.grownBy w' row) (hg : some g ≠ row) : Blk w' g t cs := (hb.block g h.lt hg).trans h
theorem Blk.turn {M : Obj → Prop} {B : Nat} (h : Blk w g t cs) (hb : Turn M B w w') (hM : ¬ M (.cells cs t (0, 0))) : Blk w' g t cs := hb.keep h hM
theorem Blk.ne_ {g' : Nat} {t' : TypeId} {cs' : Array Value} (h : Blk w g t cs) (h' : Blk w g' t' cs') (hne : t ≠ t') : g ≠ g' := by
  rintro rfl
  unfold Blk at h h'
  rw [h] at h'
  injection h' with h'
  injection h' with _ ht
  exact hne ht
theorem own_blk_ne {base : Nat} {e : TypeId} {size n : Nat} {v : Value} {xs : List Value} (h : w.ownsRow base e size v n xs) (hg : Blk w g t cs) (hne : e ≠ t) : v.ownBlock ≠ some g := by
  rcases h.2 with ⟨rfl, _⟩ | ⟨g', cap, cur, rfl, _, hh, _⟩
  · simp [Value.ownBlock]
  · intro he
    have : g' = g := by simpa [Value.ownBlock] using he
    subst this
    exact Blk.ne_ (t := e) hh hg hne rfl
end
end Go.Proofs.Ytoioineibfldcaa.K
