import Derived.Test.YtjkjpmfenillcaaRows
import Derived.OpenShut
import Derived.ChangeArms
import Derived.Test.YtjkjpmfenillcaaOpn
/- What a bound on the bulk of the arguments gives for a slice's length; no statement of the seat. -/
namespace Go.Proofs.Ytjkjpmfenillcaa.Bulk
open Go Go.ChangeShapes Go.WideShapes
theorem one_le {H : Type} (d : DataW H) : 1 ≤ Rows.uptoBulk d := by
  cases d with
  | lit l => cases l <;> simp [Rows.uptoBulk]
  | nil => simp [Rows.uptoBulk]
  | ptr d => simp [Rows.uptoBulk]
  | slice elems spare => simp [Rows.uptoBulk]
  | agg parts => simp [Rows.uptoBulk]
  | iface t d => simp [Rows.uptoBulk]
  | map entries => simp [Rows.uptoBulk]
  | held h => simp [Rows.uptoBulk]
theorem length_le {H : Type} (l : List (DataW H)) : l.length ≤ Rows.uptoBulkAll l := by
  induction l with
  | nil => simp [Rows.uptoBulkAll]
  | cons x r ih => have := one_le x; simp only [Rows.uptoBulkAll, List.length_cons]; omega
/-- A slice is no longer than the bulk of what is read of it. -/
theorem slice_le {H : Type} {enc : TypeId × Value → H} {P : Program} {w : World} {base : Nat} {spare : Nat → Bool} {held : Bool} {fuel : Nat} {t e : TypeId} {A : Option Addr} {n c : Nat} {d : DataW H} {p : List MemPlace} (ht : P.underlying t = some (.slice e)) (h : DataW.trod enc P w base spare held fuel t [.slice A n c] = some (d, p)) : n ≤ Rows.uptoBulk d := by
  rcases DataW.trod_slice ht h with ⟨e1, _⟩ | ⟨a, len, cap, elems, rest, m, _, hc, hx, _, _, _, hl, _⟩
  · simp only [List.cons.injEq, Value.slice.injEq, and_true] at e1
    omega
  · simp only [List.cons.injEq, Value.slice.injEq, and_true] at hc
    obtain ⟨_, rfl, _⟩ := hc
    obtain ⟨rfl, _⟩ := Prod.mk.inj hx
    have h1 := length_le (elems.map (·.1))
    rw [List.length_map] at h1
    simp only [Rows.uptoBulk]
    omega
theorem bound {H : Type} {l : List (DataW H)} (hk : Rows.uptoSmall H l = true) : Rows.uptoBulkAll l ≤ 1048576 := of_decide_eq_true hk
end Go.Proofs.Ytjkjpmfenillcaa.Bulk
/- Data that came in, opened into the kinds of the walks' contracts, with a bound on their bulk: helper lemmas, no statement of the seat. -/
set_option linter.unusedVariables false
set_option linter.unusedSimpArgs false
namespace Go.Proofs.YtjkjpmfenillcaaOpnU
open Go.RowKit Go.Proofs.YtjkjpmfenillcaaW.PrintWords Go.ChangeShapes Go.WideShapes Go.Deep Go.Proofs.YtjkjpmfenillcaaOpn Go.Proofs.Ytjkjpmfenillcaa
def massL {α : Type} (m : α → Nat) : List α → Nat
  | [] => 0
  | y :: l => m y + massL m l
/-- What reads at a type is of a kind, and no larger than what is read. -/
structure OpensU (P : Program) (t : TypeId) {α : Type} (d : Kd α) (good : α → Prop) (mass : α → Nat) : Prop where
  op : ∀ {H : Type} {enc : TypeId × Value → H} {w : World} {base : Nat} {spare : Nat → Bool} {held : Bool} {fuel : Nat} {cs : List Value} {x : DataW H × List MemPlace},
    DataW.trod enc P w base spare held fuel t cs = some x → (x.1.weights P t).all (· ≤ reachBytes) = true → ∃ y, d.K w y cs ∧ good y ∧ mass y ≤ Rows.uptoBulk x.1
section
variable {P : Program} {t e : TypeId} {α β : Type} {d : Kd α} {good : α → Prop} {mass : α → Nat}
theorem opensU_of (h : Opens P t d good) : OpensU P t d good (fun _ => 1) := ⟨fun hx hw => by
  obtain ⟨y, a, b⟩ := h.op hx hw
  exact ⟨y, a, b, Bulk.one_le _⟩⟩
theorem massL_le {H : Type} (mass : α → Nat) : ∀ (l : List α) (ds : List (DataW H)), l.length ≤ ds.length → (∀ (i : Nat) (y : α) (x : DataW H), l[i]? = some y → ds[i]? = some x → mass y ≤ Rows.uptoBulk x) → massL mass l ≤ Rows.uptoBulkAll ds
  | [], ds, _, _ => Nat.zero_le _
  | y :: l, [], h, _ => by simp at h
  | y :: l, x :: ds, h, hi => by
    have h0 := hi 0 y x rfl rfl
    have ih := massL_le mass l ds (by simpa using h) (fun i y x h1 h2 => hi (i + 1) y x (by simpa using h1) (by simpa using h2))
    simp only [massL, Rows.uptoBulkAll]
    omega
theorem opensU_slice {b : Nat} (ht : P.underlying t = some (.slice e)) (he : OpensU P e d good mass) (hC : P.cellsOf e = d.sz) (hB : P.bytesOf e = b) :
    OpensU P t (Kd.slice e d) (fun l => (∀ y ∈ l, good y) ∧ l.length * b ≤ reachBytes) (fun l => massL mass l + 1) := ⟨fun {H enc w base spare held fuel cs x} h hw => by
  rcases open_slice ht h with ⟨rfl, rfl⟩ | ⟨a, len, cap, m, n, D, Pl, rfl, hb, hl, hm, hmm, rfl, hi⟩
  · exact ⟨[], ⟨none, 0, rfl, Nat.le_refl _, rfl, by simp, fun h => absurd h (by simp)⟩, ⟨by simp, by simp⟩, Bulk.one_le _⟩
  · simp only [DataW.weights, ht, List.all_cons, List.all_append, Bool.and_eq_true, decide_eq_true_eq] at hw
    obtain ⟨hsz, hwl, _⟩ := hw
    have hlm : len ≤ m := by rw [hmm]; split <;> omega
    have key : ∀ i, i < len → ∃ y, (∃ c, c.length = d.sz ∧ d.K w y c ∧ ∀ j u, c[j]? = some u → w.cell? (a.add (i * d.sz + j)) = some u) ∧ good y ∧ mass y ≤ Rows.uptoBulk (D i) := by
      intro i hlt
      obtain ⟨cs', hc, ht'⟩ := hi i (by omega)
      have hwi := weightsAll_get _ hwl i (D i) (by simp [List.getElem?_map, List.getElem?_range hlt])
      obtain ⟨y, hy, hg, hmass⟩ := he.op ht' hwi
      refine ⟨y, ⟨cs', d.K_len hy, hy, fun j u hu => ?_⟩, hg, hmass⟩
      obtain ⟨_, hcl, hat⟩ := World.cells?_some hc
      have hj : j < P.cellsOf e := by
        rw [hC, ← d.K_len hy]
        exact (List.getElem?_eq_some_iff.1 hu).1
      rw [← Go.Deep.add_add, ← hC, hat j hj, hu]
    obtain ⟨l, hll, hp⟩ := exists_list len key
    refine ⟨l, ⟨some a, cap, by rw [hll], by rw [hll]; exact hl, rfl, ?_, fun _ => ⟨a, rfl, fun j p hj => (hp j p hj).1⟩⟩, ⟨fun y hy => ?_, ?_⟩, ?_⟩
    · rw [hll]
      simp only [maxLen] at hm
      omega
    · obtain ⟨i, hi', rfl⟩ := List.getElem_of_mem hy
      exact (hp i _ (List.getElem?_eq_getElem hi')).2.1
    · rw [hll, ← hB]
      refine Nat.le_trans (Nat.mul_le_mul_right _ ?_) hsz
      simp
    · simp only [Rows.uptoBulk]
      have := massL_le (H := H) mass l ((List.range len).map D) (by simp [hll]) (fun i y x h1 h2 => by
        have hi2 : i < len := by rw [← hll]; exact (List.getElem?_eq_some_iff.1 h1).1
        rw [List.getElem?_map, List.getElem?_range hi2] at h2
        simp only [Option.map_some, Option.some.injEq] at h2
        subst h2
        exact (hp i y h1).2.2)
      omega⟩
/-- The fields of a struct, from one on. -/
structure OpensFU (P : Program) (fs : List Field) (off : Nat) {α : Type} (d : Kd α) (good : α → Prop) (mass : α → Nat) : Prop where
  op : ∀ {H : Type} {enc : TypeId × Value → H} {w : World} {base : Nat} {spare : Nat → Bool} {held : Bool} {n : Nat} {cs : List Value} {xs : List (DataW H × List MemPlace)},
    (∀ (j : Nat) (f : Field), fs[j]? = some f → DataW.trod enc P w base spare held n f.type ((cs.drop f.offset).take (P.cellsOf f.type)) = xs[j]?) → xs.length = fs.length →
    (DataW.weightsEach P (fs.map (·.type)) (xs.map (·.1))).all (· ≤ reachBytes) = true → cs.length = off + d.sz → ∃ y, d.K w y (cs.drop off) ∧ good y ∧ mass y ≤ Rows.uptoBulkAll (xs.map (·.1))
theorem opensFU_one {f : Field} {off : Nat} (ho : f.offset = off) (h : OpensU P f.type d good mass) (hC : P.cellsOf f.type = d.sz) : OpensFU P [f] off d good mass := ⟨fun {H enc w base spare held n cs xs} hx hl hw hlen => by
  match xs, hl with
  | [x], _ =>
    have h0 := hx 0 f rfl
    simp only [List.getElem?_cons_zero] at h0
    rw [ho, hC, List.take_of_length_le (by rw [List.length_drop]; omega)] at h0
    obtain ⟨y, a, b, c⟩ := h.op h0 (by simpa [DataW.weightsEach] using hw)
    exact ⟨y, a, b, by simpa [Rows.uptoBulkAll] using c⟩⟩
theorem opensFU_cons {f : Field} {r : List Field} {off : Nat} {d1 : Kd β} {good1 : β → Prop} {mass1 : β → Nat} (ho : f.offset = off) (h : OpensU P f.type d good mass) (hC : P.cellsOf f.type = d.sz) (hr : OpensFU P r (off + d.sz) d1 good1 mass1) :
    OpensFU P (f :: r) off (Kd.pair d d1) (fun y => good y.1 ∧ good1 y.2) (fun y => mass y.1 + mass1 y.2) := ⟨fun {H enc w base spare held n cs xs} hx hl hw hlen => by
  match xs, hl with
  | x :: xs, hl =>
    have h0 := hx 0 f rfl
    simp only [List.getElem?_cons_zero] at h0
    rw [ho, hC] at h0
    simp only [List.map_cons, DataW.weightsEach, List.all_append, Bool.and_eq_true] at hw
    obtain ⟨y0, k0, g0, m0⟩ := h.op h0 hw.1
    obtain ⟨y1, k1, g1, m1⟩ := hr.op (cs := cs) (xs := xs) (fun j f' hj => by simpa using hx (j + 1) f' (by simpa using hj)) (by simpa using hl) hw.2 (by have : (Kd.pair d d1).sz = d.sz + d1.sz := rfl; omega)
    refine ⟨(y0, y1), ⟨_, _, ?_, k0, k1⟩, ⟨g0, g1⟩, ?_⟩
    · rw [← List.drop_drop, List.take_append_drop]
    · simp only [List.map_cons, Rows.uptoBulkAll]
      omega⟩
theorem opensU_struct {fs : Array Field} (ht : P.underlying t = some (.struct fs)) (h : OpensFU P fs.toList 0 d good mass) (hC : P.cellsOf t = d.sz) : OpensU P t d good mass := ⟨fun {H enc w base spare held fuel cs x} hx hw => by
  obtain ⟨xs, n, _, rfl, hl, hlen, hf⟩ := DataW.trod_struct ht hx
  simp only [DataW.weights, ht] at hw
  obtain ⟨y, a, b, c⟩ := h.op (cs := cs) (xs := xs) (fun j f hj => hf j f (by simpa using hj)) (by simpa using hlen) hw (by rw [hl, hC]; omega)
  refine ⟨y, by simpa using a, b, ?_⟩
  simp only [Rows.uptoBulk]
  omega⟩
theorem opensU_iso (f : β → α) (mk : α → β) (hm : ∀ y, f (mk y) = y) (h : OpensU P t d good mass) : OpensU P t (Kd.iso d f) (fun x => good (f x)) (fun x => mass (f x)) := ⟨fun hx hw => by
  obtain ⟨y, hk, hg, hms⟩ := h.op hx hw
  exact ⟨mk y, show d.K _ (f (mk y)) _ by rw [hm]; exact hk, by rw [hm]; exact hg, by rw [hm]; exact hms⟩⟩
end
end Go.Proofs.YtjkjpmfenillcaaOpnU
