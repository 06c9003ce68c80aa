/- Data that came in, opened into the kinds of the walks' contracts: helper lemmas, no statement of the seat. -/
import Derived.Test.YtjkjpmfenillcaaWWords
import Derived.Deep.Slices
import Derived.ChangeArms
import Derived.SizedLaws
set_option linter.unusedVariables false
set_option linter.unusedSimpArgs false
namespace Go.Proofs.YtjkjpmfenillcaaOpn
open Go.RowKit Go.Proofs.YtjkjpmfenillcaaW.PrintWords Go.ChangeShapes Go.WideShapes Go.Deep

/-- What reads at a type is of a kind. -/
structure Opens (P : Program) (t : TypeId) {α : Type} (d : Kd α) (good : α → Prop) : Prop where
  op : ∀ {H : Type} {enc : TypeId × Value → H} {w : World} {base : Nat} {spare : Nat → Bool} {held : Bool} {fuel : Nat} {cs : List Value} {x : DataW H × List MemPlace},
    DataW.trod enc P w base spare held fuel t cs = some x → (x.1.weights P t).all (· ≤ reachBytes) = true → ∃ y, d.K w y cs ∧ good y
section
variable {P : Program} {t e : TypeId} {α β : Type} {d : Kd α} {good : α → Prop}
theorem opens_int {k : IntKind} (ht : P.underlying t = some (.int k)) : Opens P t (Kd.int k) (fun n => (Lit.int k n).wf = true) := ⟨fun h _ => by
  obtain ⟨n, rfl, rfl, hw⟩ := DataW.trod_int ht h
  exact ⟨n, rfl, hw⟩⟩
theorem opens_bool (ht : P.underlying t = some .bool) : Opens P t Kd.bool (fun _ => True) := ⟨fun h _ => by
  obtain ⟨b, rfl, rfl⟩ := DataW.trod_bool ht h
  exact ⟨b, rfl, trivial⟩⟩
theorem opens_string (ht : P.underlying t = some .string) : Opens P t Kd.string (fun s => s.size ≤ reachBytes) := ⟨fun h hw => by
  obtain ⟨s, rfl, rfl, hm⟩ := DataW.trod_string ht h
  refine ⟨s, rfl, ?_⟩
  simp only [DataW.weights, List.all_cons, List.all_nil, Bool.and_true, decide_eq_true_eq] at hw
  rw [← data_length]
  exact hw⟩
theorem exists_list {α : Type} {p : Nat → α → Prop} : ∀ n : Nat, (∀ i, i < n → ∃ y, p i y) → ∃ l : List α, l.length = n ∧ ∀ i y, l[i]? = some y → p i y
  | 0, _ => ⟨[], rfl, fun i y h => by simp at h⟩
  | n + 1, h => by
    obtain ⟨l, hl, hp⟩ := exists_list n (fun i hi => h i (by omega))
    obtain ⟨y, hy⟩ := h n (by omega)
    refine ⟨l ++ [y], by simp [hl], fun i z hz => ?_⟩
    by_cases hi : i < l.length
    · rw [List.getElem?_append_left hi] at hz
      exact hp i z hz
    · rw [List.getElem?_append_right (by omega)] at hz
      have h0 : i - l.length = 0 := by
        rcases Nat.eq_zero_or_pos (i - l.length) with h0 | h0
        · exact h0
        · rw [List.getElem?_eq_none (by simp; omega)] at hz
          cases hz
      rw [h0] at hz
      simp only [List.getElem?_cons_zero, Option.some.injEq] at hz
      rw [← hz, show i = n from by omega]
      exact hy
theorem weightsAll_get {H : Type} : ∀ (l : List (DataW H)), (DataW.weightsAll P e l).all (· ≤ reachBytes) = true → ∀ (i : Nat) (x : DataW H), l[i]? = some x → (x.weights P e).all (· ≤ reachBytes) = true
  | [], _, i, x, hx => by simp at hx
  | y :: l, h, i, x, hx => by
    simp only [DataW.weightsAll, List.all_append, Bool.and_eq_true] at h
    cases i with
    | zero =>
      simp only [List.getElem?_cons_zero, Option.some.injEq] at hx
      rw [← hx]
      exact h.1
    | succ i => exact weightsAll_get l h.2 i x (by simpa using hx)
theorem opens_slice {b : Nat} (ht : P.underlying t = some (.slice e)) (he : Opens P e d good) (hC : P.cellsOf e = d.sz) (hB : P.bytesOf e = b) :
    Opens P t (Kd.slice e d) (fun l => (∀ y ∈ l, good y) ∧ l.length * b ≤ reachBytes) := ⟨fun {H enc w base spare held fuel cs x} h hw => by
  rcases open_slice ht h with ⟨rfl, rfl⟩ | ⟨a, len, cap, m, n, D, Pl, rfl, hb, hl, hm, hmm, rfl, hi⟩
  · exact ⟨[], ⟨none, 0, rfl, Nat.le_refl _, rfl, by simp, fun h => absurd h (by simp)⟩, by simp, by simp⟩
  · simp only [DataW.weights, ht, List.all_cons, List.all_append, Bool.and_eq_true, decide_eq_true_eq] at hw
    obtain ⟨hsz, hwl, _⟩ := hw
    have hlm : len ≤ m := by rw [hmm]; split <;> omega
    have key : ∀ i, i < len → ∃ y, (∃ c, c.length = d.sz ∧ d.K w y c ∧ ∀ j u, c[j]? = some u → w.cell? (a.add (i * d.sz + j)) = some u) ∧ good y := by
      intro i hlt
      obtain ⟨cs', hc, ht'⟩ := hi i (by omega)
      have hwi := weightsAll_get _ hwl i (D i) (by simp [List.getElem?_map, List.getElem?_range hlt])
      obtain ⟨y, hy, hg⟩ := he.op ht' hwi
      refine ⟨y, ⟨cs', d.K_len hy, hy, fun j u hu => ?_⟩, hg⟩
      obtain ⟨_, hcl, hat⟩ := World.cells?_some hc
      have hj : j < P.cellsOf e := by
        rw [hC, ← d.K_len hy]
        exact (List.getElem?_eq_some_iff.1 hu).1
      rw [← Go.Deep.add_add, ← hC, hat j hj, hu]
    obtain ⟨l, hll, hp⟩ := exists_list len key
    refine ⟨l, ⟨some a, cap, by rw [hll], by rw [hll]; exact hl, rfl, ?_, fun _ => ⟨a, rfl, fun j p hj => (hp j p hj).1⟩⟩, fun y hy => ?_, ?_⟩
    · rw [hll]
      simp only [maxLen] at hm
      omega
    · obtain ⟨i, hi', rfl⟩ := List.getElem_of_mem hy
      exact (hp i _ (List.getElem?_eq_getElem hi')).2
    · rw [hll, ← hB]
      refine Nat.le_trans (Nat.mul_le_mul_right _ ?_) hsz
      simp⟩
/-- The fields of a struct, from one on. -/
structure OpensF (P : Program) (fs : List Field) (off : Nat) {α : Type} (d : Kd α) (good : α → Prop) : Prop where
  op : ∀ {H : Type} {enc : TypeId × Value → H} {w : World} {base : Nat} {spare : Nat → Bool} {held : Bool} {n : Nat} {cs : List Value} {xs : List (DataW H × List MemPlace)},
    (∀ (j : Nat) (f : Field), fs[j]? = some f → DataW.trod enc P w base spare held n f.type ((cs.drop f.offset).take (P.cellsOf f.type)) = xs[j]?) → xs.length = fs.length →
    (DataW.weightsEach P (fs.map (·.type)) (xs.map (·.1))).all (· ≤ reachBytes) = true → cs.length = off + d.sz → ∃ y, d.K w y (cs.drop off) ∧ good y
theorem opensF_one {f : Field} {off : Nat} (ho : f.offset = off) (h : Opens P f.type d good) (hC : P.cellsOf f.type = d.sz) : OpensF P [f] off d good := ⟨fun {H enc w base spare held n cs xs} hx hl hw hlen => by
  match xs, hl with
  | [x], _ =>
    have h0 := hx 0 f rfl
    simp only [List.getElem?_cons_zero] at h0
    rw [ho, hC, List.take_of_length_le (by rw [List.length_drop]; omega)] at h0
    refine h.op h0 ?_
    simpa [DataW.weightsEach] using hw⟩
theorem opensF_cons {f : Field} {r : List Field} {off : Nat} {d1 : Kd β} {good1 : β → Prop} (ho : f.offset = off) (h : Opens P f.type d good) (hC : P.cellsOf f.type = d.sz) (hr : OpensF P r (off + d.sz) d1 good1) :
    OpensF P (f :: r) off (Kd.pair d d1) (fun y => good y.1 ∧ good1 y.2) := ⟨fun {H enc w base spare held n cs xs} hx hl hw hlen => by
  match xs, hl with
  | x :: xs, hl =>
    have h0 := hx 0 f rfl
    simp only [List.getElem?_cons_zero] at h0
    rw [ho, hC] at h0
    simp only [List.map_cons, DataW.weightsEach, List.all_append, Bool.and_eq_true] at hw
    obtain ⟨y0, k0, g0⟩ := h.op h0 hw.1
    obtain ⟨y1, k1, g1⟩ := hr.op (cs := cs) (xs := xs) (fun j f' hj => by simpa using hx (j + 1) f' (by simpa using hj)) (by simpa using hl) hw.2 (by have : (Kd.pair d d1).sz = d.sz + d1.sz := rfl; omega)
    refine ⟨(y0, y1), ⟨_, _, ?_, k0, k1⟩, g0, g1⟩
    rw [← List.drop_drop, List.take_append_drop]⟩
theorem opens_struct {fs : Array Field} (ht : P.underlying t = some (.struct fs)) (h : OpensF P fs.toList 0 d good) (hC : P.cellsOf t = d.sz) : Opens P t d good := ⟨fun {H enc w base spare held fuel cs x} hx hw => by
  obtain ⟨xs, n, _, rfl, hl, hlen, hf⟩ := DataW.trod_struct ht hx
  simp only [DataW.weights, ht] at hw
  have := h.op (cs := cs) (xs := xs) (fun j f hj => hf j f (by simpa using hj)) (by simpa using hlen) hw (by rw [hl, hC]; omega)
  simpa using this⟩
theorem opens_iso (f : β → α) (mk : α → β) (hm : ∀ y, f (mk y) = y) (h : Opens P t d good) : Opens P t (Kd.iso d f) (fun x => good (f x)) := ⟨fun hx hw => by
  obtain ⟨y, hk, hg⟩ := h.op hx hw
  exact ⟨mk y, show d.K _ (f (mk y)) _ by rw [hm]; exact hk, by rw [hm]; exact hg⟩⟩
end
/-- A place among the sizes. -/
theorem weightsEach_get {P : Program} {H : Type} : ∀ {ts : List TypeId} {ds : List (DataW H)}, (DataW.weightsEach P ts ds).all (· ≤ reachBytes) = true → ∀ {j : Nat} {t : TypeId} {x : DataW H}, ts[j]? = some t → ds[j]? = some x → (x.weights P t).all (· ≤ reachBytes) = true
  | [], _, _, _, _, _, h1, _ => by simp at h1
  | _ :: _, [], _, _, _, _, _, h2 => by simp at h2
  | t :: ts, d :: ds, h, j, t', x, h1, h2 => by
    simp only [DataW.weightsEach, List.all_append, Bool.and_eq_true] at h
    cases j with
    | zero =>
      simp only [List.getElem?_cons_zero, Option.some.injEq] at h1 h2
      rw [← h1, ← h2]
      exact h.1
    | succ j => exact weightsEach_get h.2 (by simpa using h1) (by simpa using h2)
end Go.Proofs.YtjkjpmfenillcaaOpn
