/-
  The plain law behind Good, Deep, Part and Kids: the stack of open terms, run along the kid counts, gives both what impl.heights yields and the reference's sizes, roots and depths. Condition: the numbers stay below 2^63.
-/
import Derived.Test.YtoioineibfldcaaHMeasure
import Derived.Test.YtoioineibfldcaaHSizes
set_option linter.unusedVariables false
namespace Go.Proofs.Ytoioineibfldcaa.K
open Go.RowKit Go.Proofs.YtoioineibfldcaaW.PrintWords Go.Proofs.YtoioineibfldcaaW.PrintLast Go.Proofs.YtoioineibfldcaaW.PrintMore

/-- The stack run along the kid counts: what is told of each node, and the stack that is left. -/
def run : List (Int × Int) → Int → List Int → Option (List (Int × Int) × List (Int × Int))
  | st, _, [] => some ([], st)
  | st, i, k :: ks => if k < 0 ∨ (st.length : Int) < k then none else
      (run (st.take (st.length - k.toNat) ++ [foldKids (1, i) (st.drop (st.length - k.toNat))]) (i + 1) ks).map
        (fun p => (foldKids (1, i) (st.drop (st.length - k.toNat)) :: p.1, p.2))
theorem run_bad (st : List (Int × Int)) (i k : Int) (ks : List Int) (h : k < 0 ∨ (st.length : Int) < k) : run st i (k :: ks) = none := by rw [run, if_pos h]
theorem run_ok (st : List (Int × Int)) (i k : Int) (ks : List Int) (h : ¬ (k < 0 ∨ (st.length : Int) < k)) :
    run st i (k :: ks) = (run (st.take (st.length - k.toNat) ++ [foldKids (1, i) (st.drop (st.length - k.toNat))]) (i + 1) ks).map (fun p => (foldKids (1, i) (st.drop (st.length - k.toNat)) :: p.1, p.2)) := by
  rw [run, if_neg h]
theorem run_len : ∀ (ks : List Int) (st : List (Int × Int)) (i : Int) (Y fin : List (Int × Int)), run st i ks = some (Y, fin) → Y.length = ks.length := by
  intro ks
  induction ks with
  | nil => intro st i Y fin h; simp [run] at h; obtain ⟨rfl, rfl⟩ := h; rfl
  | cons k ks ih =>
    intro st i Y fin h
    by_cases hb : k < 0 ∨ (st.length : Int) < k
    · rw [run_bad _ _ _ _ hb] at h; cases h
    · rw [run_ok _ _ _ _ hb] at h
      obtain ⟨⟨Y', fin'⟩, h1, h2⟩ := Option.map_eq_some_iff.1 h
      obtain ⟨rfl, rfl⟩ := Prod.mk.inj h2
      simp [ih _ _ _ _ h1]

theorem hts_none : ∀ (ks : List Int) (st : List (Int × Int)) (i : Int), run st i ks = none → ∃ x ∈ hts st i ks, x.1 < 0 := by
  intro ks
  induction ks with
  | nil => intro st i h; simp [run] at h
  | cons k ks ih =>
    intro st i h
    by_cases hb : k < 0 ∨ (st.length : Int) < k
    · rw [hts_bad _ _ _ _ hb]; exact ⟨(-1, -1), by simp, by decide⟩
    · rw [run_ok _ _ _ _ hb] at h
      obtain ⟨x, hx, hn⟩ := ih _ _ (Option.map_eq_none_iff.1 h)
      rw [hts_ok _ _ _ _ hb]
      exact ⟨x, List.mem_cons_of_mem _ hx, hn⟩
theorem hts_some : ∀ (ks : List Int) (st : List (Int × Int)) (i : Int) (Y fin : List (Int × Int)), run st i ks = some (Y, fin) → hts st i ks = Y ++ (if fin.length = 1 then [] else [(-1, -1)]) := by
  intro ks
  induction ks with
  | nil => intro st i Y fin h; simp [run] at h; obtain ⟨rfl, rfl⟩ := h; simp [hts]
  | cons k ks ih =>
    intro st i Y fin h
    by_cases hb : k < 0 ∨ (st.length : Int) < k
    · rw [run_bad _ _ _ _ hb] at h; cases h
    · rw [run_ok _ _ _ _ hb] at h
      obtain ⟨⟨Y', fin'⟩, h1, h2⟩ := Option.map_eq_some_iff.1 h
      obtain ⟨rfl, rfl⟩ := Prod.mk.inj h2
      rw [hts_ok _ _ _ _ hb, ih _ _ _ _ h1]
      rfl

/-- The sizes that belong to what is told of the nodes from index i on. -/
def szOf : Int → List (Int × Int) → List Int
  | _, [] => []
  | i, e :: Y => (i - e.2 + 1) :: szOf (i + 1) Y
theorem szOf_len : ∀ (Y : List (Int × Int)) (i : Int), (szOf i Y).length = Y.length
  | [], _ => rfl
  | e :: Y, i => by simp [szOf, szOf_len Y (i + 1)]
theorem szOf_get : ∀ (Y : List (Int × Int)) (i : Int) (j : Nat) (e : Int × Int), Y[j]? = some e → (szOf i Y)[j]? = some (i + j - e.2 + 1)
  | [], _, _, _, h => by simp at h
  | x :: Y, i, 0, e, h => by simp at h; subst h; simp [szOf]
  | x :: Y, i, j + 1, e, h => by
    simp at h
    simp only [szOf, List.getElem?_cons_succ]
    rw [szOf_get Y (i + 1) j e h]
    congr 1
    omega
theorem foldKids_from (i : Int) (xs : List (Int × Int)) : (foldKids (1, i) xs).2 = match xs with | [] => i | x :: _ => x.2 := by
  cases xs with
  | nil => rfl
  | cons x r =>
    have key : ∀ (r : List (Int × Int)) (w : Int × Int), (r.foldl (fun w kid => foldKid w kid false) w).2 = w.2 := by
      intro r
      induction r with
      | nil => intro w; rfl
      | cons y r ih => intro w; rw [List.foldl_cons, ih]; rfl
    rw [foldKids, key]
    rfl
theorem szs_b (st : List (Int × Int)) (i k : Int) (h : ¬ (k < 0 ∨ (st.length : Int) < k)) :
    (if 0 < k then (st.map (·.2)).getD ((st.map (·.2)).length - k.toNat) 0 else i) = (foldKids (1, i) (st.drop (st.length - k.toNat))).2 := by
  rw [foldKids_from]
  by_cases hk : 0 < k
  · rw [if_pos hk, List.length_map]
    have hlt : st.length - k.toNat < st.length := by omega
    rw [List.drop_eq_getElem_cons hlt]
    simp [List.getD_eq_getElem?_getD, hlt]
  · rw [if_neg hk]
    have : st.length - k.toNat = st.length := by omega
    rw [this, List.drop_length]
theorem szs_run : ∀ (ks : List Int) (st : List (Int × Int)) (i : Int), szs (st.map (·.2)) i ks = (run st i ks).map (fun p => szOf i p.1) := by
  intro ks
  induction ks with
  | nil => intro st i; rfl
  | cons k ks ih =>
    intro st i
    by_cases hb : k < 0 ∨ (st.length : Int) < k
    · rw [run_bad _ _ _ _ hb, szs_bad _ _ _ _ (by simpa using hb)]; rfl
    · rw [run_ok _ _ _ _ hb, szs_ok _ _ _ _ (by simpa using hb) _ (szs_b st i k hb)]
      have := ih (st.take (st.length - k.toNat) ++ [foldKids (1, i) (st.drop (st.length - k.toNat))]) (i + 1)
      simp only [List.map_append, List.map_take, List.map_cons, List.map_nil] at this
      rw [List.length_map, this, Option.map_map, Option.map_map]
      congr 1

/-! ### the chain of open terms -/
/-- rs: the stack, its top first; e: the root of the top; Y: what is told of all nodes. -/
def PCh (Y : List (Int × Int)) : List (Int × Int) → Int → Prop
  | [], _ => True
  | x :: s, e => 0 ≤ e ∧ Y[e.toNat]? = some x ∧ PCh Y s (x.2 - 1)
def ends : List (Int × Int) → Int → Int
  | [], e => e
  | x :: s, _ => ends s (x.2 - 1)
def rts : List (Int × Int) → Int → List Int
  | [], _ => []
  | x :: s, e => e :: rts s (x.2 - 1)
theorem PCh.take {Y : List (Int × Int)} : ∀ {rs : List (Int × Int)} {e : Int} (k : Nat), PCh Y rs e → PCh Y (rs.take k) e
  | [], _, k, _ => by simp [PCh]
  | x :: s, e, 0, _ => by simp [PCh]
  | x :: s, e, k + 1, h => ⟨h.1, h.2.1, PCh.take k h.2.2⟩
theorem PCh.drop {Y : List (Int × Int)} : ∀ {rs : List (Int × Int)} {e : Int} (k : Nat), PCh Y rs e → PCh Y (rs.drop k) (ends (rs.take k) e) ∧ ends (rs.drop k) (ends (rs.take k) e) = ends rs e
  | [], _, k, _ => by simp [PCh, ends]
  | x :: s, e, 0, h => by simpa [ends] using h
  | x :: s, e, k + 1, h => by simpa [ends] using PCh.drop k h.2.2
theorem ends_last : ∀ (rs : List (Int × Int)) (e : Int), ends rs e = match rs.getLast? with | none => e | some x => x.2 - 1
  | [], e => rfl
  | [x], e => rfl
  | x :: y :: s, e => by
    rw [ends, ends_last (y :: s) (x.2 - 1), List.getLast?_cons_cons]
    cases h : (y :: s).getLast? with
    | none => simp at h
    | some z => rfl
theorem rts_len : ∀ (rs : List (Int × Int)) (e : Int), (rts rs e).length = rs.length
  | [], _ => rfl
  | x :: s, e => by simp [rts, rts_len s (x.2 - 1)]

/-- What holds ahead of node i: the nodes' depths and beginnings, the chain. -/
structure At (Y : List (Int × Int)) (st : List (Int × Int)) (i : Nat) : Prop where
  ch : PCh Y st.reverse ((i : Int) - 1)
  fin : ends st.reverse ((i : Int) - 1) = -1
  bd : ∀ e ∈ st, 1 ≤ e.1 ∧ e.1 ≤ i ∧ 0 ≤ e.2 ∧ e.2 < i
theorem foldKids_fst : ∀ (xs : List (Int × Int)) (d : Int) (i : Int), (foldKids (d + 1, i) xs).1 = (xs.map (·.1)).foldl (fun d r => if d < r then r else d) d + 1 := by
  have one : ∀ (d : Int) (i : Int) (x : Int × Int) (b : Bool), (foldKid (d + 1, i) x b).1 = (if d < x.1 then x.1 else d) + 1 := by
    intro d i x b
    simp only [foldKid]
    by_cases h : d < x.1
    · rw [if_pos (by omega), if_pos h]
    · rw [if_neg (by omega), if_neg h]
  have key : ∀ (r : List (Int × Int)) (w : Int × Int) (d : Int), w.1 = d + 1 → (r.foldl (fun w kid => foldKid w kid false) w).1 = (r.map (·.1)).foldl (fun d r => if d < r then r else d) d + 1 := by
    intro r
    induction r with
    | nil => intro w d h; exact h
    | cons y r ih =>
      intro w d h
      rw [List.foldl_cons, List.map_cons, List.foldl_cons]
      refine ih _ _ ?_
      obtain ⟨w1, w2⟩ := w
      simp only at h
      subst h
      exact one d w2 y false
  intro xs d i
  cases xs with
  | nil => rfl
  | cons x r =>
    rw [foldKids, List.map_cons, List.foldl_cons]
    exact key r _ _ (one d i x true)
theorem foldmax_bd : ∀ (l : List Int) (d B : Int), 0 ≤ d → d ≤ B → (∀ x ∈ l, x ≤ B) → 0 ≤ l.foldl (fun d r => if d < r then r else d) d ∧ l.foldl (fun d r => if d < r then r else d) d ≤ B := by
  intro l
  induction l with
  | nil => intro d B h0 h1 _; exact ⟨h0, h1⟩
  | cons x l ih =>
    intro d B h0 h1 hx
    rw [List.foldl_cons]
    have := hx x (by simp)
    refine ih _ B ?_ ?_ (fun y hy => hx y (List.mem_cons_of_mem _ hy)) <;> split <;> omega
theorem At.next {Y st : List (Int × Int)} {i kn : Nat} (h : At Y st i) (hk : kn ≤ st.length) (hy : Y[i]? = some (foldKids (1, (i : Int)) (st.drop (st.length - kn)))) :
    At Y (st.take (st.length - kn) ++ [foldKids (1, (i : Int)) (st.drop (st.length - kn))]) (i + 1) := by
  have hrev : st.reverse.drop kn = (st.take (st.length - kn)).reverse := by rw [List.drop_reverse]
  have hrt : st.reverse.take kn = (st.drop (st.length - kn)).reverse := by rw [List.take_reverse]
  have hb : (foldKids (1, (i : Int)) (st.drop (st.length - kn))).2 - 1 = ends (st.reverse.take kn) ((i : Int) - 1) := by
    rw [foldKids_from, ends_last, hrt, List.getLast?_reverse]
    cases st.drop (st.length - kn) with
    | nil => rfl
    | cons x r => rfl
  obtain ⟨hd1, hd2⟩ := PCh.drop kn h.ch
  have ecast : (((i + 1 : Nat) : Int) - 1) = (i : Int) := by omega
  refine ⟨?_, ?_, ?_⟩
  · rw [List.reverse_append, List.reverse_singleton, List.singleton_append, ← hrev, ecast]
    exact ⟨by omega, by rw [Int.toNat_natCast]; exact hy, by rw [hb]; exact hd1⟩
  · rw [List.reverse_append, List.reverse_singleton, List.singleton_append, ← hrev, ends, hb, hd2, h.fin]
  · intro e he
    rcases List.mem_append.1 he with he | he
    · have := h.bd e (List.mem_of_mem_take he); omega
    · rw [List.mem_singleton.1 he]
      have h1 := foldKids_fst (st.drop (st.length - kn)) 0 (i : Int)
      have h2 := foldmax_bd ((st.drop (st.length - kn)).map (·.1)) 0 (i : Int) (by omega) (by omega) (fun x hx => by
        obtain ⟨y, hy, rfl⟩ := List.mem_map.1 hx
        exact (h.bd y (List.mem_of_mem_drop hy)).2.1)
      have h3 := foldKids_snd (1, (i : Int)) i (st.drop (st.length - kn)) (by simp) (fun e he => (h.bd e (List.mem_of_mem_drop he)).2.2)
      rw [Int.zero_add] at h1
      omega
end Go.Proofs.Ytoioineibfldcaa.K
